/- spec.l03Pieces by hand: all parts that numbers can have, the letters first, then the minus pairs. -/
import Derived.Test.YtnacfljfalkonaaQpureValid
import Derived.Outline
import Derived.Lib.Hide
import Derived.Laws.BytesArg
import Derived.Test.YtnacfljfalkonaaQhandParts
namespace Go.Proofs.Ytnacfljfalkonaa.Q
open Go.RowKit Go.Proofs.YtnacfljfalkonaaW.PrintWords Go.Proofs.YtnacfljfalkonaaW.PrintLast Go.Proofs.YtnacfljfalkonaaW.PrintMore
open Go.Proofs.Ytnacfljfalkonaa.Pure
set_option linter.unusedVariables false
set_option linter.unusedSimpArgs false

def sgQ (x : SG) : S46 := ⟨strOfNums [x.f0], x.f1⟩
def mpQ (s : List SG) (p : MP) : S46 := ⟨strOfNums [p.f0, p.f1], valB s p.f1 - valB s p.f0⟩
def piecesQ (s : List SG) (m : List MP) : List S46 := s.map sgQ ++ m.map (mpQ s)
def spec_l03Pieces.f (s : List SG) (m : List MP) : Option (List S46) := if s.length ≤ 1048576 ∧ m.length ≤ 1048576 ∧ (s.all (fun x => decide (-32768 ≤ x.f1) && decide (x.f1 ≤ 32767))) = true then some (piecesQ s m) else none
theorem sg_cells {w0 W : World} {ad : Addr} {l : List SG} (h : Kd.C k77 w0 (some ad) l.length l) (hb : Below w0.heap.size w0 W) (k : Nat) (hk : k < l.length) : W.cell? (ad.add (k * 2)) = some (.int .u8 (rd_T77 l (k : Int)).f0) ∧ W.cell? ⟨(ad.add (k * 2)).block, (ad.add (k * 2)).off + 1, none⟩ = some (.int .i16 (rd_T77 l (k : Int)).f1) := by
  obtain ⟨ad2, ea, hx, hy⟩ := at_T77 (Kd.C_below h hb) (k : Nat) (by omega) (by omega)
  cases ea
  simp only [Int.toNat_natCast] at hx hy
  exact ⟨hx, hy⟩
theorem mp_cells {w0 W : World} {ad : Addr} {l : List MP} (h : Kd.C k79 w0 (some ad) l.length l) (hb : Below w0.heap.size w0 W) (k : Nat) (hk : k < l.length) : W.cell? (ad.add (k * 2)) = some (.int .u8 (rd_T79 l (k : Int)).f0) ∧ W.cell? ⟨(ad.add (k * 2)).block, (ad.add (k * 2)).off + 1, none⟩ = some (.int .u8 (rd_T79 l (k : Int)).f1) := by
  obtain ⟨ad2, ea, hx, hy⟩ := at_T79 (Kd.C_below h hb) (k : Nat) (by omega) (by omega)
  cases ea
  simp only [Int.toNat_natCast] at hx hy
  exact ⟨hx, hy⟩
theorem one_cell {w : World} {g : Nat} {a : Int} (h0 : w.cell? ⟨g, 0, none⟩ = some (.int .u8 a)) (i : Nat) (hi : i < 1) : w.cell? ⟨g, 0 + i, none⟩ = some (.int .u8 ([a].getD i 0)) := by
  obtain rfl : i = 0 := by omega
  exact h0

set_option maxRecDepth 20000 in
set_option maxHeartbeats 8000000 in
theorem spec_l03Pieces.calls (g : Nat) (l0 : List SG) (l1 : List MP) (r : List S46) (w0 w : World) (hI : IsS31 w0 w g l0 l1) (hB : Below w0.heap.size w0 w) (h : spec_l03Pieces.f l0 l1 = some r) :
    Calls Try.prog 16 #[.pointer (some ⟨g, 0, none⟩)] w fun e w' => ∃ v0_ : Value, e = .returned (v0_) ∧ Kd.R k46 46 w' w0.heap.size (fun k => k ≠ g) v0_ r ∧ IsS31 w0 w' g l0 l1 ∧ Below w0.heap.size w0 w' := by
  unfold spec_l03Pieces.f at h
  split at h
  rotate_left
  · cases h
  rename_i hb
  obtain ⟨hls, hlm, hfb⟩ := hb
  have HF := Lib.hid (fit16_ofP hfb)
  have RR := Lib.hid (Option.some.inj h)
  clear h hfb
  have HI0 := Lib.hid hI
  have HB0 := Lib.hid hB
  clear hI hB
  go_enter Try.func16, Try.ntmps16
  go_wp2_with (first | ((with_reducible refine gate_dst (N := 8) rfl ?_); refine Kd.R_lit k46 (w0 := w0) w0.heap.size 46 ?hg (N := 8) ?hd (xs := ([] : List S46)) (inner := []) (ok := fun k => k ≠ g) (okp := fun k => k ≠ g) ?hr ?hp (fun _ hk => hk) (HI0.out.fresh _ (Nat.le_refl _)) HB0.out HB0.out.size (by simp) ?_; (case hd => rfl); (case hg => rfl); (case hr => first | (go_simp; done) | (go_simp; rfl)); (case hp => exact (Reps.none _ _)); intro v0 w7 ho8 hb hg_ hnew_; have HO := Lib.hid ho8; have HB7 := Lib.hid hb; have HI7 := Lib.hid (HI0.out.grown hg_ (by simp)); clear ho8 hb hg_ hnew_))
  go_loopw [3, 4] (fun v i wr => ∃ k : Nat, k ≤ l0.length ∧ i = .int .i64 k ∧ RowKit.Hid (Kd.R k46 46 wr w0.heap.size (fun k => k ≠ g) v ((l0.take k).map sgQ)) ∧ RowKit.Hid (IsS31 w0 wr g l0 l1) ∧ RowKit.Hid (Below w0.heap.size w0 wr)) (fun _ i _ => l0.length - (intOf i).toNat)
  case atStart => exact ⟨0, Nat.zero_le _, rfl, HO, HI7, HB7⟩
  case round =>
    clear HO HI7 HB7
    obtain ⟨k, hk, rfl, HR, HI, HW⟩ := hrel
    obtain ⟨A0, c0, A1, c1, hbk, hg, hr0, hr1⟩ := HI.out
    have BK := Lib.hid hbk
    have HG := Lib.hid hg
    have HR0 := Lib.hid hr0
    have HR1 := Lib.hid hr1
    clear hg hr0 hr1 hbk
    have hd0 := (blk_cell BK.out 0).trans rfl
    have hd1 := (blk_cell BK.out 1).trans rfl
    by_cases hlt : k < l0.length
    · have hlt2 : (k : Int) < (l0.length : Int) := by omega
      obtain ⟨ad2, ea, hx, hy⟩ := at_T77 (Kd.C_below HR0.out HW.out) (k : Nat) (by omega) (by omega)
      cases ea
      clear hx hy
      have EX := Lib.hid (rdSG_get _ _ hlt)
      have hfit := HF.out _ (List.getElem_mem hlt)
      rw [← rdSG_get _ _ hlt] at hfit
      have HWX := Lib.hid (show wrap64 (rd_T77 l0 (k : Int)).f1 = (rd_T77 l0 (k : Int)).f1 from wrap_id (by omega) (by omega))
      clear hfit
      go_wp2
      have n0_ := Lib.hid (Kd.R_drew HR.out)
      have n1_ := Lib.hid (blk_drew BK.out)
      have n2_ := Lib.hid (below_drew1 HW.out)
      clear HR BK HW HI hd0 hd1
      have HR := n0_
      have BK := n1_
      have HW := n2_
      clear n0_ n1_ n2_
      refine start_ (n := 24) (S := fun w' => w'.cell? ⟨g, 0, none⟩ = some (.slice (some ad2) l0.length c0) ∧ w'.cell? (ad2.add (k * 2)) = some (.int .u8 (rd_T77 l0 (k : Int)).f0) ∧ w'.cell? ⟨(ad2.add (k * 2)).block, (ad2.add (k * 2)).off + 1, none⟩ = some (.int .i16 (rd_T77 l0 (k : Int)).f1)) (ds := []) #[false, false, false, false, false, false, false, false, false, false, false, false, false, false, false, false, false, false, false, false, false, false, false, false] (by kernel_rfl) rfl rfl ⟨(blk_cell BK.out 0).trans rfl, (sg_cells HR0.out HW.out k hlt).1, (sg_cells HR0.out HW.out k hlt).2⟩ (fun hHeld => ?_)
      generalize wr.drew = wq at HR BK HW hHeld ⊢
      refine pure_ (i := 0) (N := some 18) (v := ?_) (a' := ?_) #[true, false, false, false, false, false, false, false, false, false, false, false, false, false, false, false, false, false, false, false, false, false, false, false] rfl rfl (by kernel_rfl) (fun _ _ _ h => h) (Or.inl ⟨by rfl, ?_⟩) ?_ ?_
      rotate_left
      · intro w'
        go_simp
        with_reducible rfl
      rotate_left
      · simp only [Act.put, List.setIfInBounds_toArray, List.set_cons_zero, List.set_cons_succ, i64_w, i32_w]
        rfl
      refine pure_ (i := 1) (N := some 19) (v := ?_) (a' := ?_) #[true, true, false, false, false, false, false, false, false, false, false, false, false, false, false, false, false, false, false, false, false, false, false, false] rfl rfl (by kernel_rfl) (fun _ _ _ h => h) (Or.inl ⟨by rfl, ?_⟩) ?_ ?_
      rotate_left
      · intro w'
        go_simp
        with_reducible rfl
      rotate_left
      · simp only [Act.put, List.setIfInBounds_toArray, List.set_cons_zero, List.set_cons_succ, i64_w, i32_w]
        rfl
      refine pure_ (i := 2) (N := some 20) (v := ?_) (a' := ?_) #[true, true, true, false, false, false, false, false, false, false, false, false, false, false, false, false, false, false, false, false, false, false, false, false] rfl rfl (by kernel_rfl) (fun _ _ _ h => h) (Or.inl ⟨by rfl, ?_⟩) ?_ ?_
      rotate_left
      · intro w'
        go_simp
        with_reducible rfl
      rotate_left
      · simp only [Act.put, List.setIfInBounds_toArray, List.set_cons_zero, List.set_cons_succ, i64_w, i32_w]
        rfl
      refine pure_ (i := 3) (N := some 21) (v := ?_) (a' := ?_) #[true, true, true, true, false, false, false, false, false, false, false, false, false, false, false, false, false, false, false, false, false, false, false, false] rfl rfl (by kernel_rfl) (fun _ _ _ h => h) (Or.inl ⟨by rfl, ?_⟩) ?_ ?_
      rotate_left
      · intro w'
        go_simp
        with_reducible rfl
      rotate_left
      · simp only [Act.put, List.setIfInBounds_toArray, List.set_cons_zero, List.set_cons_succ, i64_w, i32_w]
        rfl
      refine pure_ (i := 5) (N := some 23) (v := ?_) (a' := ?_) #[true, true, true, true, false, true, false, false, false, false, false, false, false, false, false, false, false, false, false, false, false, false, false, false] rfl rfl (by kernel_rfl) (fun _ _ _ h => h) (Or.inl ⟨by rfl, ?_⟩) ?_ ?_
      rotate_left
      · intro w'
        go_simp
        with_reducible rfl
      rotate_left
      · simp only [Act.put, List.setIfInBounds_toArray, List.set_cons_zero, List.set_cons_succ, i64_w, i32_w]
        rfl
      refine pure_ (i := 11) (N := some 29) (v := ?_) (a' := ?_) #[true, true, true, true, false, true, false, false, false, false, false, true, false, false, false, false, false, false, false, false, false, false, false, false] rfl rfl (by kernel_rfl) (fun _ _ _ h => h) (Or.inl ⟨by rfl, ?_⟩) ?_ ?_
      rotate_left
      · intro w'
        go_simp
        with_reducible rfl
      rotate_left
      · simp only [Act.put, List.setIfInBounds_toArray, List.set_cons_zero, List.set_cons_succ, i64_w, i32_w]
        rfl
      refine pure_ (i := 12) (N := some 30) (v := ?_) (a' := ?_) #[true, true, true, true, false, true, false, false, false, false, false, true, true, false, false, false, false, false, false, false, false, false, false, false] rfl rfl (by kernel_rfl) (fun _ _ _ h => h) (Or.inl ⟨by rfl, ?_⟩) ?_ ?_
      rotate_left
      · intro w'
        go_simp
        with_reducible rfl
      rotate_left
      · simp only [Act.put, List.setIfInBounds_toArray, List.set_cons_zero, List.set_cons_succ, i64_w, i32_w]
        rfl
      refine pure_ (i := 13) (N := some 31) (v := ?_) (a' := ?_) #[true, true, true, true, false, true, false, false, false, false, false, true, true, true, false, false, false, false, false, false, false, false, false, false] rfl rfl (by kernel_rfl) (fun _ _ _ h => h) (Or.inl ⟨by rfl, ?_⟩) ?_ ?_
      rotate_left
      · intro w'
        go_simp
        with_reducible rfl
      rotate_left
      · simp only [Act.put, List.setIfInBounds_toArray, List.set_cons_zero, List.set_cons_succ, i64_w, i32_w]
        rfl
      refine pure_ (i := 15) (N := some 33) (v := ?_) (a' := ?_) #[true, true, true, true, false, true, false, false, false, false, false, true, true, true, false, true, false, false, false, false, false, false, false, false] rfl rfl (by kernel_rfl) (fun _ _ _ h => h) (Or.inl ⟨by rfl, ?_⟩) ?_ ?_
      rotate_left
      · intro w'
        go_simp
        with_reducible rfl
      rotate_left
      · simp only [Act.put, List.setIfInBounds_toArray, List.set_cons_zero, List.set_cons_succ, i64_w, i32_w]
        rfl
      refine take_ (i := 4) (N := some 22) (v := ?_) (a' := ?_) #[true, true, true, true, true, true, false, false, false, false, false, true, true, true, false, true, false, false, false, false, false, false, false, false] rfl rfl (by kernel_rfl) (fun _ _ _ h => h) (Or.inl ⟨by rfl, ?_⟩) hHeld ?_ ?_
      rotate_left
      · rintro w' ⟨s0, s1, s2⟩
        go_simp
        with_reducible rfl
      rotate_left
      · simp only [Act.put, List.setIfInBounds_toArray, List.set_cons_zero, List.set_cons_succ, i64_w, i32_w]
        rfl
      refine take_ (i := 14) (N := some 32) (v := ?_) (a' := ?_) #[true, true, true, true, true, true, false, false, false, false, false, true, true, true, true, true, false, false, false, false, false, false, false, false] rfl rfl (by kernel_rfl) (fun _ _ _ h => h) (Or.inl ⟨by rfl, ?_⟩) hHeld ?_ ?_
      rotate_left
      · rintro w' ⟨s0, s1, s2⟩
        go_simp
        with_reducible rfl
      rotate_left
      · simp only [Act.put, List.setIfInBounds_toArray, List.set_cons_zero, List.set_cons_succ, i64_w, i32_w]
        rfl
      refine pure_ (i := 6) (N := some 24) (v := ?_) (a' := ?_) #[true, true, true, true, true, true, true, false, false, false, false, true, true, true, true, true, false, false, false, false, false, false, false, false] rfl rfl (by kernel_rfl) (fun _ _ _ h => h) (Or.inl ⟨by rfl, ?_⟩) ?_ ?_
      rotate_left
      · intro w'
        go_simp
        with_reducible rfl
      rotate_left
      · simp only [Act.put, List.setIfInBounds_toArray, List.set_cons_zero, List.set_cons_succ, i64_w, i32_w]
        rfl
      refine pure_ (i := 7) (N := some 25) (v := ?_) (a' := ?_) #[true, true, true, true, true, true, true, true, false, false, false, true, true, true, true, true, false, false, false, false, false, false, false, false] rfl rfl (by kernel_rfl) (fun _ _ _ h => h) (Or.inl ⟨by rfl, ?_⟩) ?_ ?_
      rotate_left
      · intro w'
        go_simp
        with_reducible rfl
      rotate_left
      · simp only [Act.put, List.setIfInBounds_toArray, List.set_cons_zero, List.set_cons_succ, i64_w, i32_w]
        rfl
      refine pure_ (i := 16) (N := some 34) (v := ?_) (a' := ?_) #[true, true, true, true, true, true, true, true, false, false, false, true, true, true, true, true, true, false, false, false, false, false, false, false] rfl rfl (by kernel_rfl) (fun _ _ _ h => h) (Or.inl ⟨by rfl, ?_⟩) ?_ ?_
      rotate_left
      · intro w'
        go_simp
        with_reducible rfl
      rotate_left
      · simp only [Act.put, List.setIfInBounds_toArray, List.set_cons_zero, List.set_cons_succ, i64_w, i32_w]
        rfl
      refine pure_ (i := 17) (N := some 35) (v := ?_) (a' := ?_) #[true, true, true, true, true, true, true, true, false, false, false, true, true, true, true, true, true, true, false, false, false, false, false, false] rfl rfl (by kernel_rfl) (fun _ _ _ h => h) (Or.inl ⟨by rfl, ?_⟩) ?_ ?_
      rotate_left
      · intro w'
        go_simp
        with_reducible rfl
      rotate_left
      · simp only [Act.put, List.setIfInBounds_toArray, List.set_cons_zero, List.set_cons_succ, i64_w, i32_w]
        rfl
      refine take_ (i := 8) (N := some 26) (v := ?_) (a' := ?_) #[true, true, true, true, true, true, true, true, true, false, false, true, true, true, true, true, true, true, false, false, false, false, false, false] rfl rfl (by kernel_rfl) (fun _ _ _ h => h) (Or.inl ⟨by rfl, ?_⟩) hHeld ?_ ?_
      rotate_left
      · rintro w' ⟨s0, s1, s2⟩
        go_simp
        with_reducible rfl
      rotate_left
      · simp only [Act.put, List.setIfInBounds_toArray, List.set_cons_zero, List.set_cons_succ, i64_w, i32_w]
        rfl
      refine take_ (i := 18) (N := some 36) (v := ?_) (a' := ?_) #[true, true, true, true, true, true, true, true, true, false, false, true, true, true, true, true, true, true, true, false, false, false, false, false] rfl rfl (by kernel_rfl) (fun _ _ _ h => h) (Or.inl ⟨by rfl, ?_⟩) hHeld ?_ ?_
      rotate_left
      · rintro w' ⟨s0, s1, s2⟩
        go_simp
        with_reducible rfl
      rotate_left
      · simp only [Act.put, List.setIfInBounds_toArray, List.set_cons_zero, List.set_cons_succ, i64_w, i32_w]
        rfl
      refine pure_ (i := 19) (N := some 37) (v := ?_) (a' := ?_) #[true, true, true, true, true, true, true, true, true, false, false, true, true, true, true, true, true, true, true, true, false, false, false, false] rfl rfl (by kernel_rfl) (fun _ _ _ h => h) (Or.inl ⟨by rfl, ?_⟩) ?_ ?_
      rotate_left
      · intro w'
        go_simp
        with_reducible rfl
      rotate_left
      · simp only [Act.put, List.setIfInBounds_toArray, List.set_cons_zero, List.set_cons_succ, i64_w, i32_w]
        rfl
      refine one_ (i := 9) (N := some 27) #[true, true, true, true, true, true, true, true, true, true, false, true, true, true, true, true, true, true, true, true, false, false, false, false] rfl rfl (by kernel_rfl) (by decide) (fun K hK => ?_)
      refine value_ (w1 := ?_) (v := ?_) (by rfl) rfl ?_ ?_
      rotate_left 2
      · go_simp
        constructor
        · rfl
        · rfl
      obtain ⟨X, hX⟩ : ∃ X, X = wq.heap.size := ⟨_, rfl⟩
      have BP := Lib.hid (heap_alloc_new wq (.cells #[.int .u8 (rd_T77 l0 (k : Int)).f0] 5))
      rw [← hX] at BP ⊢
      have n0_ := Lib.hid (Kd.R_alloc HR.out (.cells #[.int .u8 (rd_T77 l0 (k : Int)).f0] 5))
      have n1_ := Lib.hid (blk_alloc BK.out (.cells #[.int .u8 (rd_T77 l0 (k : Int)).f0] 5))
      have n2_ := Lib.hid (below_alloc HW.out (.cells #[.int .u8 (rd_T77 l0 (k : Int)).f0] 5))
      clear HR BK HW hHeld
      have HR := n0_
      have BK := n1_
      have HW := n2_
      clear n0_ n1_ n2_ hX
      generalize wq.alloc (.cells #[.int .u8 (rd_T77 l0 (k : Int)).f0] 5) = wp at HR BK HW BP ⊢
      refine hK.out _ _ ⟨(blk_cell BK.out 0).trans rfl, (sg_cells HR0.out HW.out k hlt).1, (sg_cells HR0.out HW.out k hlt).2⟩ (fun hHeld => ?_)
      clear hK K
      refine norm_ (a' := ?_) ?_ ?_
      rotate_left
      · show Act.put _ (some 27) _ = _
        simp only [Act.put, List.setIfInBounds_toArray, List.set_cons_zero, List.set_cons_succ, i64_w, i32_w]
        rfl
      have hcv := run_convert_bytes_arg (P := Try.prog) wp 70 5 Try.underlying70 Try.underlying5 X 0 1 1 [(rd_T77 l0 (k : Int)).f0] rfl (one_cell ((blk_cell BP.out 0).trans rfl)) 9 Try.underlying9
      refine one_ (i := 10) (N := some 28) #[true, true, true, true, true, true, true, true, true, true, true, true, true, true, true, true, true, true, true, true, false, false, false, false] rfl rfl (by kernel_rfl) (by decide) (fun K hK => ?_)
      refine value_ (w1 := ?_) (v := ?_) (by rfl) rfl ?_ ?_
      rotate_left 2
      · go_simp
        constructor
        · rfl
        · rfl
      clear hcv
      refine hK.out _ _ hHeld (fun hHeld => ?_)
      clear hK K
      refine norm_ (a' := ?_) ?_ ?_
      rotate_left
      · show Act.put _ (some 28) _ = _
        simp only [Act.put, List.setIfInBounds_toArray, List.set_cons_zero, List.set_cons_succ, i64_w, i32_w]
        rfl
      refine pure_ (i := 20) (N := some 38) (v := ?_) (a' := ?_) #[true, true, true, true, true, true, true, true, true, true, true, true, true, true, true, true, true, true, true, true, true, false, false, false] rfl rfl (by kernel_rfl) (fun _ _ _ h => h) (Or.inl ⟨by rfl, ?_⟩) ?_ ?_
      rotate_left
      · intro w'
        go_simp
        with_reducible rfl
      rotate_left
      · simp only [Act.put, List.setIfInBounds_toArray, List.set_cons_zero, List.set_cons_succ, i64_w, i32_w]
        rfl
      refine one_ (i := 21) (N := some 39) #[true, true, true, true, true, true, true, true, true, true, true, true, true, true, true, true, true, true, true, true, true, true, false, false] rfl rfl (by kernel_rfl) (by decide) (fun K hK => ?_)
      refine value_ (w1 := ?_) (v := ?_) (by rfl) rfl ?_ ?_
      rotate_left 2
      · go_simp
        constructor
        · rfl
        · rfl
      refine hK.out _ _ ⟨(blk_cell (blk_alloc BK.out _) 0).trans rfl, (sg_cells HR0.out (below_alloc HW.out _) k hlt).1, (sg_cells HR0.out (below_alloc HW.out _) k hlt).2⟩ (fun hHeld => ?_)
      clear hK K
      refine norm_ (a' := ?_) ?_ ?_
      rotate_left
      · show Act.put _ (some 39) _ = _
        simp only [Act.put, List.setIfInBounds_toArray, List.set_cons_zero, List.set_cons_succ, i64_w, i32_w]
        rfl
      refine one_ (i := 22) (N := some 40) #[true, true, true, true, true, true, true, true, true, true, true, true, true, true, true, true, true, true, true, true, true, true, true, false] rfl rfl (by kernel_rfl) (by decide) (fun K hK => ?_)
      refine Kd.R_append_step k46 (w0 := w0) w0.heap.size (by rfl) (.tmp 18) (.tmp 39) 43 46 (.agg #[(.string ⟨#[]⟩), (.int .i64 0)]) 24 rfl Try.underlying43 info46 rfl (by decide) (by omega) u3 ((l0.take k).map sgQ) (⟨strOfNums [(rd_T77 l0 (k : Int)).f0], wrap64 (rd_T77 l0 (k : Int)).f1⟩ : S46) [.string (strOfNums [(rd_T77 l0 (k : Int)).f0]), .int .i64 (wrap64 (rd_T77 l0 (k : Int)).f1)] (fun k => k ≠ g) (fun _ => False) rfl rfl ?aP (fun _ hk => hk.elim) ?aF ?aO ?aB ?aS ?aL ?_
      (case aP => exact k46_mkM _ _ _ (⟨strOfNums [(rd_T77 l0 (k : Int)).f0], wrap64 (rd_T77 l0 (k : Int)).f1⟩ : S46))
      (case aB => exact HW.out)
      (case aF => exact (Kd.freshB BK.out))
      (case aO => exact HR.out)
      (case aS => exact HW.out.size)
      (case aL => rw [List.length_map, List.length_take]; omega)
      intro v9 w9 ho hb hg hat
      rw [HWX.out] at ho
      have n0_ := Lib.hid ho
      have n1_ := Lib.hid (blk_grown BK.out hg (Kd.R_ne HR.out BK.out (by decide)))
      have n2_ := Lib.hid hb
      clear HR BK HW hHeld
      have HR := n0_
      have BK := n1_
      have HW := n2_
      clear n0_ n1_ n2_
      refine hK.out _ _ ⟨(blk_cell BK.out 0).trans rfl, (sg_cells HR0.out HW.out k hlt).1, (sg_cells HR0.out HW.out k hlt).2⟩ (fun hHeld => ?_)
      clear hK K
      clear ho hb hg hat
      refine norm_ (a' := ?_) ?_ ?_
      rotate_left
      · show Act.put _ (some 40) _ = _
        simp only [Act.put, List.setIfInBounds_toArray, List.set_cons_zero, List.set_cons_succ, i64_w, i32_w]
        rfl
      refine pure_ (i := 23) (N := some 3) (v := ?_) (a' := ?_) #[true, true, true, true, true, true, true, true, true, true, true, true, true, true, true, true, true, true, true, true, true, true, true, true] rfl rfl (by kernel_rfl) (fun _ _ _ h => h) (Or.inl ⟨by rfl, ?_⟩) ?_ ?_
      rotate_left
      · intro w'
        go_simp
        with_reducible rfl
      rotate_left
      · simp only [Act.put, List.setIfInBounds_toArray, List.set_cons_zero, List.set_cons_succ, i64_w, i32_w]
        rfl
      refine done_ (by kernel_rfl) ?_
      go_wp2
      go_roundw
      case measure => simp only [intOf]; omega
      case rel => exact ⟨k + 1, by omega, by go_num, Lib.hid (by rw [map_step sgQ l0 k hlt, ← EX.out]; exact HR.out), Lib.hid ⟨_, c0, A1, c1, BK.out, HG.out, HR0.out, HR1.out⟩, HW⟩
    · have hlt2 : ¬ (k : Int) < (l0.length : Int) := by omega
      have HR2 := Lib.hid (show Kd.R k46 46 wr w0.heap.size (fun k => k ≠ g) u3 (l0.map sgQ) by have := HR.out; rw [List.take_of_length_le (by omega)] at this; exact this)
      clear HR
      go_wp2
      clear hd0 hd1
      go_loopw [3, 5] (fun v i wr => ∃ j : Nat, j ≤ l1.length ∧ i = .int .i64 j ∧ RowKit.Hid (Kd.R k46 46 wr w0.heap.size (fun k => k ≠ g) v (l0.map sgQ ++ (l1.take j).map (mpQ l0))) ∧ RowKit.Hid (IsS31 w0 wr g l0 l1) ∧ RowKit.Hid (Below w0.heap.size w0 wr)) (fun _ i _ => l1.length - (intOf i).toNat)
      case atStart => exact ⟨0, Nat.zero_le _, rfl, Lib.hid (by simpa using HR2.out), HI, HW⟩
      case round =>
        clear HR2 hlt2 HI HW BK HG HR0 HR1
        obtain ⟨j, hj, rfl, HR, HI, HW⟩ := hrel
        obtain ⟨A0, c0, A1, c1, hbk, hg, hr0, hr1⟩ := HI.out
        have hd0 := (blk_cell hbk 0).trans rfl
        have hd1 := (blk_cell hbk 1).trans rfl
        have HR1 := Lib.hid hr1
        clear hg hr0 hr1 hbk
        by_cases hlt : j < l1.length
        · have hlt2 : (j : Int) < (l1.length : Int) := by omega
          obtain ⟨ad4, ea, hx, hy⟩ := at_T79 (Kd.C_below HR1.out HW.out) (j : Nat) (by omega) (by omega)
          cases ea
          simp only [Int.toNat_natCast] at hx hy
          have EX := Lib.hid (rdA2_get _ _ hlt)
          go_wp2
          clear hd0 hd1 hx hy
          have n0_ := Lib.hid (Kd.R_drew HR.out)
          have n1_ := Lib.hid (HI.out.drew)
          have n2_ := Lib.hid (below_drew1 HW.out)
          clear HR HI HW HR1
          have HR := n0_
          have HI := n1_
          have HW := n2_
          clear n0_ n1_ n2_
          refine start_ (n := 16) (S := fun _ => True) (ds := []) #[false, false, false, false, false, false, false, false, false, false, false, false, false, false, false, false] (by kernel_rfl) rfl rfl trivial (fun hHeld => ?_)
          generalize wr.drew = wq at HR HI HW hHeld ⊢
          clear hHeld
          refine pure_ (i := 0) (N := some 66) (v := ?_) (a' := ?_) #[true, false, false, false, false, false, false, false, false, false, false, false, false, false, false, false] rfl rfl (by kernel_rfl) (fun _ _ _ h => h) (Or.inl ⟨by rfl, ?_⟩) ?_ ?_
          rotate_left
          · intro w'
            go_simp
            with_reducible rfl
          rotate_left
          · simp only [Act.put, List.setIfInBounds_toArray, List.set_cons_zero, List.set_cons_succ, i64_w, i32_w]
            rfl
          refine pure_ (i := 1) (N := some 67) (v := ?_) (a' := ?_) #[true, true, false, false, false, false, false, false, false, false, false, false, false, false, false, false] rfl rfl (by kernel_rfl) (fun _ _ _ h => h) (Or.inl ⟨by rfl, ?_⟩) ?_ ?_
          rotate_left
          · intro w'
            go_simp
            with_reducible rfl
          rotate_left
          · simp only [Act.put, List.setIfInBounds_toArray, List.set_cons_zero, List.set_cons_succ, i64_w, i32_w]
            rfl
          refine pure_ (i := 2) (N := some 68) (v := ?_) (a' := ?_) #[true, true, true, false, false, false, false, false, false, false, false, false, false, false, false, false] rfl rfl (by kernel_rfl) (fun _ _ _ h => h) (Or.inl ⟨by rfl, ?_⟩) ?_ ?_
          rotate_left
          · intro w'
            go_simp
            with_reducible rfl
          rotate_left
          · simp only [Act.put, List.setIfInBounds_toArray, List.set_cons_zero, List.set_cons_succ, i64_w, i32_w]
            rfl
          refine pure_ (i := 5) (N := some 71) (v := ?_) (a' := ?_) #[true, true, true, false, false, true, false, false, false, false, false, false, false, false, false, false] rfl rfl (by kernel_rfl) (fun _ _ _ h => h) (Or.inl ⟨by rfl, ?_⟩) ?_ ?_
          rotate_left
          · intro w'
            go_simp
            with_reducible rfl
          rotate_left
          · simp only [Act.put, List.setIfInBounds_toArray, List.set_cons_zero, List.set_cons_succ, i64_w, i32_w]
            rfl
          refine pure_ (i := 6) (N := some 72) (v := ?_) (a' := ?_) #[true, true, true, false, false, true, true, false, false, false, false, false, false, false, false, false] rfl rfl (by kernel_rfl) (fun _ _ _ h => h) (Or.inl ⟨by rfl, ?_⟩) ?_ ?_
          rotate_left
          · intro w'
            go_simp
            with_reducible rfl
          rotate_left
          · simp only [Act.put, List.setIfInBounds_toArray, List.set_cons_zero, List.set_cons_succ, i64_w, i32_w]
            rfl
          refine pure_ (i := 8) (N := some 74) (v := ?_) (a' := ?_) #[true, true, true, false, false, true, true, false, true, false, false, false, false, false, false, false] rfl rfl (by kernel_rfl) (fun _ _ _ h => h) (Or.inl ⟨by rfl, ?_⟩) ?_ ?_
          rotate_left
          · intro w'
            go_simp
            with_reducible rfl
          rotate_left
          · simp only [Act.put, List.setIfInBounds_toArray, List.set_cons_zero, List.set_cons_succ, i64_w, i32_w]
            rfl
          refine pure_ (i := 9) (N := some 75) (v := ?_) (a' := ?_) #[true, true, true, false, false, true, true, false, true, true, false, false, false, false, false, false] rfl rfl (by kernel_rfl) (fun _ _ _ h => h) (Or.inl ⟨by rfl, ?_⟩) ?_ ?_
          rotate_left
          · intro w'
            go_simp
            with_reducible rfl
          rotate_left
          · simp only [Act.put, List.setIfInBounds_toArray, List.set_cons_zero, List.set_cons_succ, i64_w, i32_w]
            rfl
          have v1 := valB_le HF.out (rd_T79 l1 (j : Int)).f1
          have v0 := valB_le HF.out (rd_T79 l1 (j : Int)).f0
          have HWR := Lib.hid (show wrap64 (valB l0 (rd_T79 l1 (j : Int)).f1 - valB l0 (rd_T79 l1 (j : Int)).f0) = valB l0 (rd_T79 l1 (j : Int)).f1 - valB l0 (rd_T79 l1 (j : Int)).f0 from wrap_id (by omega) (by omega))
          clear v1 v0
          refine two_ (i := 3) (j := 7) (Ni := some 69) (Nj := some 73) #[true, true, true, true, false, true, true, false, true, true, false, false, false, false, false, false] #[true, true, true, false, false, true, true, true, true, true, false, false, false, false, false, false] rfl rfl rfl rfl (by kernel_rfl) (by decide) (by decide) (fun K hK => ?_) (fun K hK => ?_)
          · refine value_ (w1 := ?_) (v := ?_) (by rfl) rfl ?_ ?_
            rotate_left 2
            · go_simp
              constructor
              · rfl
              · rfl
            have BP := Lib.hid (heap_alloc_new wq (.cells #[.int .u8 (rd_T79 l1 (j : Int)).f0, .int .u8 (rd_T79 l1 (j : Int)).f1] 5))
            obtain ⟨X, hX⟩ : ∃ X, X = wq.heap.size := ⟨_, rfl⟩
            rw [← hX] at BP ⊢
            have NX := Lib.hid (show X ≠ g by rw [hX]; exact HI.out.fresh _ (Nat.le_refl _))
            clear hX
            have n0_ := Lib.hid (Kd.R_alloc HR.out (.cells #[.int .u8 (rd_T79 l1 (j : Int)).f0, .int .u8 (rd_T79 l1 (j : Int)).f1] 5))
            have n1_ := Lib.hid (HI.out.alloc (.cells #[.int .u8 (rd_T79 l1 (j : Int)).f0, .int .u8 (rd_T79 l1 (j : Int)).f1] 5))
            have n2_ := Lib.hid (below_alloc HW.out (.cells #[.int .u8 (rd_T79 l1 (j : Int)).f0, .int .u8 (rd_T79 l1 (j : Int)).f1] 5))
            clear HR HI HW
            have HR := n0_
            have HI := n1_
            have HW := n2_
            clear n0_ n1_ n2_
            generalize wq.alloc (.cells #[.int .u8 (rd_T79 l1 (j : Int)).f0, .int .u8 (rd_T79 l1 (j : Int)).f1] 5) = wz1 at HR HI HW BP ⊢
            refine hK.out _ _ trivial (fun _ => ?_)
            clear hK K
            refine norm_ (a' := ?_) ?_ ?_
            rotate_left
            · show Act.put _ (some 69) _ = _
              simp only [Act.put, List.setIfInBounds_toArray, List.set_cons_zero, List.set_cons_succ, i64_w, i32_w]
              rfl
            refine two_ (i := 4) (j := 7) (Ni := some 70) (Nj := some 73) #[true, true, true, true, true, true, true, false, true, true, false, false, false, false, false, false] #[true, true, true, true, false, true, true, true, true, true, false, false, false, false, false, false] rfl rfl rfl rfl (by kernel_rfl) (by decide) (by decide) (fun K hK => ?_) (fun K hK => ?_)
            · have hcv := run_convert_bytes_arg (P := Try.prog) wz1 70 5 Try.underlying70 Try.underlying5 X 0 2 2 [(rd_T79 l1 (j : Int)).f0, (rd_T79 l1 (j : Int)).f1] rfl (two_cells ((blk_cell BP.out 0).trans rfl) ((blk_cell BP.out 1).trans rfl)) 9 Try.underlying9
              refine value_ (w1 := ?_) (v := ?_) (by rfl) rfl ?_ ?_
              rotate_left 2
              · go_simp
                constructor
                · rfl
                · rfl
              clear hcv BP NX
              refine hK.out _ _ trivial (fun _ => ?_)
              clear hK K
              refine norm_ (a' := ?_) ?_ ?_
              rotate_left
              · show Act.put _ (some 70) _ = _
                simp only [Act.put, List.setIfInBounds_toArray, List.set_cons_zero, List.set_cons_succ, i64_w, i32_w]
                rfl
              refine one_ (i := 7) (N := some 73) #[true, true, true, true, true, true, true, true, true, true, false, false, false, false, false, false] rfl rfl (by kernel_rfl) (by decide) (fun K hK => ?_)
              refine goes_ Try.func30 (by kernel_rfl) rfl #[.pointer (some ⟨g, 0, none⟩), .int .u8 (rd_T79 l1 (j : Int)).f1] (by rfl) rfl rfl (by (try simp only [List.map_toArray, List.map_cons, List.map_nil]); first | done | rfl) ?_
              with_reducible refine (spec_l03Value.calls (l0.length + 1) g l0 l1 (rd_T79 l1 (j : Int)).f1 (valB l0 (rd_T79 l1 (j : Int)).f1) w0 _ HI.out HW.out (spec_l03Value.val l0 l1 (rd_T79 l1 (j : Int)).f1 hls HF.out (l0.length + 1) (by omega))).mono ?_
              rintro e wz3 ⟨rfl, hi, hb, hk⟩
              refine ⟨_, rfl, ?_⟩
              have n0_ := Lib.hid (Kd.R_keep HR.out hk (fun _ h => h))
              have n1_ := Lib.hid (hi)
              have n2_ := Lib.hid (hb)
              clear HR HI HW
              have HR := n0_
              have HI := n1_
              have HW := n2_
              clear n0_ n1_ n2_
              clear hi hb hk
              refine hK.out _ _ trivial (fun _ => ?_)
              clear hK K
              refine norm_ (a' := ?_) ?_ ?_
              rotate_left
              · show Act.put _ (some 73) _ = _
                simp only [Act.put, List.setIfInBounds_toArray, List.set_cons_zero, List.set_cons_succ, i64_w, i32_w]
                rfl
              refine one_ (i := 10) (N := some 76) #[true, true, true, true, true, true, true, true, true, true, true, false, false, false, false, false] rfl rfl (by kernel_rfl) (by decide) (fun K hK => ?_)
              refine goes_ Try.func30 (by kernel_rfl) rfl #[.pointer (some ⟨g, 0, none⟩), .int .u8 (rd_T79 l1 (j : Int)).f0] (by rfl) rfl rfl (by (try simp only [List.map_toArray, List.map_cons, List.map_nil]); first | done | rfl) ?_
              with_reducible refine (spec_l03Value.calls (l0.length + 1) g l0 l1 (rd_T79 l1 (j : Int)).f0 (valB l0 (rd_T79 l1 (j : Int)).f0) w0 _ HI.out HW.out (spec_l03Value.val l0 l1 (rd_T79 l1 (j : Int)).f0 hls HF.out (l0.length + 1) (by omega))).mono ?_
              rintro e wz4 ⟨rfl, hi, hb, hk⟩
              refine ⟨_, rfl, ?_⟩
              have n0_ := Lib.hid (Kd.R_keep HR.out hk (fun _ h => h))
              have n1_ := Lib.hid (hi)
              have n2_ := Lib.hid (hb)
              clear HR HI HW
              have HR := n0_
              have HI := n1_
              have HW := n2_
              clear n0_ n1_ n2_
              clear hi hb hk
              refine hK.out _ _ trivial (fun _ => ?_)
              clear hK K
              refine norm_ (a' := ?_) ?_ ?_
              rotate_left
              · show Act.put _ (some 76) _ = _
                simp only [Act.put, List.setIfInBounds_toArray, List.set_cons_zero, List.set_cons_succ, i64_w, i32_w]
                rfl
              refine pure_ (i := 11) (N := some 77) (v := ?_) (a' := ?_) #[true, true, true, true, true, true, true, true, true, true, true, true, false, false, false, false] rfl rfl (by kernel_rfl) (fun _ _ _ h => h) (Or.inl ⟨by rfl, ?_⟩) ?_ ?_
              rotate_left
              · intro w'
                go_simp
                with_reducible rfl
              rotate_left
              · simp only [Act.put, List.setIfInBounds_toArray, List.set_cons_zero, List.set_cons_succ, i64_w, i32_w]
                rfl
              refine pure_ (i := 12) (N := some 78) (v := ?_) (a' := ?_) #[true, true, true, true, true, true, true, true, true, true, true, true, true, false, false, false] rfl rfl (by kernel_rfl) (fun _ _ _ h => h) (Or.inl ⟨by rfl, ?_⟩) ?_ ?_
              rotate_left
              · intro w'
                go_simp
                with_reducible rfl
              rotate_left
              · simp only [Act.put, List.setIfInBounds_toArray, List.set_cons_zero, List.set_cons_succ, i64_w, i32_w]
                rfl
              refine one_ (i := 13) (N := some 79) #[true, true, true, true, true, true, true, true, true, true, true, true, true, true, false, false] rfl rfl (by kernel_rfl) (by decide) (fun K hK => ?_)
              refine value_ (w1 := ?_) (v := ?_) (by rfl) rfl ?_ ?_
              rotate_left 2
              · go_simp
                constructor
                · rfl
                · rfl
              refine hK.out _ _ trivial (fun _ => ?_)
              clear hK K
              refine norm_ (a' := ?_) ?_ ?_
              rotate_left
              · show Act.put _ (some 79) _ = _
                simp only [Act.put, List.setIfInBounds_toArray, List.set_cons_zero, List.set_cons_succ, i64_w, i32_w]
                rfl
              refine one_ (i := 14) (N := some 80) #[true, true, true, true, true, true, true, true, true, true, true, true, true, true, true, false] rfl rfl (by kernel_rfl) (by decide) (fun K hK => ?_)
              refine Kd.R_append_step k46 (w0 := w0) w0.heap.size (by rfl) (.tmp 66) (.tmp 79) 43 46 (.agg #[(.string ⟨#[]⟩), (.int .i64 0)]) 24 rfl Try.underlying43 info46 rfl (by decide) (by omega) u3 (l0.map sgQ ++ (l1.take j).map (mpQ l0)) (⟨strOfNums [(rd_T79 l1 (j : Int)).f0, (rd_T79 l1 (j : Int)).f1], wrap64 (valB l0 (rd_T79 l1 (j : Int)).f1 - valB l0 (rd_T79 l1 (j : Int)).f0)⟩ : S46) [.string (strOfNums [(rd_T79 l1 (j : Int)).f0, (rd_T79 l1 (j : Int)).f1]), .int .i64 (wrap64 (valB l0 (rd_T79 l1 (j : Int)).f1 - valB l0 (rd_T79 l1 (j : Int)).f0))] (fun k => k ≠ g) (fun _ => False) rfl rfl ?aPq5 (fun _ hk => hk.elim) ?aFq5 ?aOq5 ?aBq5 ?aSq5 ?aLq5 ?_
              (case aPq5 => exact k46_mkM _ _ _ (⟨strOfNums [(rd_T79 l1 (j : Int)).f0, (rd_T79 l1 (j : Int)).f1], wrap64 (valB l0 (rd_T79 l1 (j : Int)).f1 - valB l0 (rd_T79 l1 (j : Int)).f0)⟩ : S46))
              (case aBq5 => exact HW.out)
              (case aFq5 => exact HI.out.fresh)
              (case aOq5 => exact HR.out)
              (case aSq5 => exact HW.out.size)
              (case aLq5 => rw [List.length_append, List.length_map, List.length_map, List.length_take]; omega)
              intro v9 w9 ho hb hg hat
              rw [HWR.out] at ho
              have n1_ := Lib.hid (HI.out.grown hg (HI.out.own_ne HR.out (by decide)))
              have n0_ := Lib.hid ho
              have n2_ := Lib.hid hb
              clear HR HI HW
              have HR := n0_
              have HI := n1_
              have HW := n2_
              clear n0_ n1_ n2_ ho hb hg hat
              refine hK.out _ _ trivial (fun _ => ?_)
              clear hK K
              refine norm_ (a' := ?_) ?_ ?_
              rotate_left
              · show Act.put _ (some 80) _ = _
                simp only [Act.put, List.setIfInBounds_toArray, List.set_cons_zero, List.set_cons_succ, i64_w, i32_w]
                rfl
              refine pure_ (i := 15) (N := some 3) (v := ?_) (a' := ?_) #[true, true, true, true, true, true, true, true, true, true, true, true, true, true, true, true] rfl rfl (by kernel_rfl) (fun _ _ _ h => h) (Or.inl ⟨by rfl, ?_⟩) ?_ ?_
              rotate_left
              · intro w'
                go_simp
                with_reducible rfl
              rotate_left
              · simp only [Act.put, List.setIfInBounds_toArray, List.set_cons_zero, List.set_cons_succ, i64_w, i32_w]
                rfl
              refine done_ (by kernel_rfl) ?_
              go_wp2
              go_roundw
              case measure => simp only [intOf]; omega
              case rel => exact ⟨j + 1, by omega, by go_num, Lib.hid (by rw [map_step (mpQ l0) l1 j hlt, ← EX.out, ← List.append_assoc]; exact HR.out), HI, HW⟩
            · refine goes_ Try.func30 (by kernel_rfl) rfl #[.pointer (some ⟨g, 0, none⟩), .int .u8 (rd_T79 l1 (j : Int)).f1] (by rfl) rfl rfl (by (try simp only [List.map_toArray, List.map_cons, List.map_nil]); first | done | rfl) ?_
              with_reducible refine (spec_l03Value.calls (l0.length + 1) g l0 l1 (rd_T79 l1 (j : Int)).f1 (valB l0 (rd_T79 l1 (j : Int)).f1) w0 _ HI.out HW.out (spec_l03Value.val l0 l1 (rd_T79 l1 (j : Int)).f1 hls HF.out (l0.length + 1) (by omega))).mono ?_
              rintro e wz6 ⟨rfl, hi, hb, hk⟩
              refine ⟨_, rfl, ?_⟩
              have n0_ := Lib.hid (Kd.R_keep HR.out hk (fun _ h => h))
              have n1_ := Lib.hid (hi)
              have n2_ := Lib.hid (hb)
              have n3_ := Lib.hid (hk.blk BP.out NX.out (by simp))
              clear HR HI HW
              have HR := n0_
              have HI := n1_
              have HW := n2_
              clear n0_ n1_ n2_
              clear BP
              have BP := n3_
              clear n3_
              clear hi hb hk
              refine hK.out _ _ trivial (fun _ => ?_)
              clear hK K
              refine norm_ (a' := ?_) ?_ ?_
              rotate_left
              · show Act.put _ (some 73) _ = _
                simp only [Act.put, List.setIfInBounds_toArray, List.set_cons_zero, List.set_cons_succ, i64_w, i32_w]
                rfl
              refine two_ (i := 4) (j := 10) (Ni := some 70) (Nj := some 76) #[true, true, true, true, true, true, true, true, true, true, false, false, false, false, false, false] #[true, true, true, true, false, true, true, true, true, true, true, false, false, false, false, false] rfl rfl rfl rfl (by kernel_rfl) (by decide) (by decide) (fun K hK => ?_) (fun K hK => ?_)
              · have hcv := run_convert_bytes_arg (P := Try.prog) wz6 70 5 Try.underlying70 Try.underlying5 X 0 2 2 [(rd_T79 l1 (j : Int)).f0, (rd_T79 l1 (j : Int)).f1] rfl (two_cells ((blk_cell BP.out 0).trans rfl) ((blk_cell BP.out 1).trans rfl)) 9 Try.underlying9
                refine value_ (w1 := ?_) (v := ?_) (by rfl) rfl ?_ ?_
                rotate_left 2
                · go_simp
                  constructor
                  · rfl
                  · rfl
                clear hcv BP NX
                refine hK.out _ _ trivial (fun _ => ?_)
                clear hK K
                refine norm_ (a' := ?_) ?_ ?_
                rotate_left
                · show Act.put _ (some 70) _ = _
                  simp only [Act.put, List.setIfInBounds_toArray, List.set_cons_zero, List.set_cons_succ, i64_w, i32_w]
                  rfl
                refine one_ (i := 10) (N := some 76) #[true, true, true, true, true, true, true, true, true, true, true, false, false, false, false, false] rfl rfl (by kernel_rfl) (by decide) (fun K hK => ?_)
                refine goes_ Try.func30 (by kernel_rfl) rfl #[.pointer (some ⟨g, 0, none⟩), .int .u8 (rd_T79 l1 (j : Int)).f0] (by rfl) rfl rfl (by (try simp only [List.map_toArray, List.map_cons, List.map_nil]); first | done | rfl) ?_
                with_reducible refine (spec_l03Value.calls (l0.length + 1) g l0 l1 (rd_T79 l1 (j : Int)).f0 (valB l0 (rd_T79 l1 (j : Int)).f0) w0 _ HI.out HW.out (spec_l03Value.val l0 l1 (rd_T79 l1 (j : Int)).f0 hls HF.out (l0.length + 1) (by omega))).mono ?_
                rintro e wz8 ⟨rfl, hi, hb, hk⟩
                refine ⟨_, rfl, ?_⟩
                have n0_ := Lib.hid (Kd.R_keep HR.out hk (fun _ h => h))
                have n1_ := Lib.hid (hi)
                have n2_ := Lib.hid (hb)
                clear HR HI HW
                have HR := n0_
                have HI := n1_
                have HW := n2_
                clear n0_ n1_ n2_
                clear hi hb hk
                refine hK.out _ _ trivial (fun _ => ?_)
                clear hK K
                refine norm_ (a' := ?_) ?_ ?_
                rotate_left
                · show Act.put _ (some 76) _ = _
                  simp only [Act.put, List.setIfInBounds_toArray, List.set_cons_zero, List.set_cons_succ, i64_w, i32_w]
                  rfl
                refine pure_ (i := 11) (N := some 77) (v := ?_) (a' := ?_) #[true, true, true, true, true, true, true, true, true, true, true, true, false, false, false, false] rfl rfl (by kernel_rfl) (fun _ _ _ h => h) (Or.inl ⟨by rfl, ?_⟩) ?_ ?_
                rotate_left
                · intro w'
                  go_simp
                  with_reducible rfl
                rotate_left
                · simp only [Act.put, List.setIfInBounds_toArray, List.set_cons_zero, List.set_cons_succ, i64_w, i32_w]
                  rfl
                refine pure_ (i := 12) (N := some 78) (v := ?_) (a' := ?_) #[true, true, true, true, true, true, true, true, true, true, true, true, true, false, false, false] rfl rfl (by kernel_rfl) (fun _ _ _ h => h) (Or.inl ⟨by rfl, ?_⟩) ?_ ?_
                rotate_left
                · intro w'
                  go_simp
                  with_reducible rfl
                rotate_left
                · simp only [Act.put, List.setIfInBounds_toArray, List.set_cons_zero, List.set_cons_succ, i64_w, i32_w]
                  rfl
                refine one_ (i := 13) (N := some 79) #[true, true, true, true, true, true, true, true, true, true, true, true, true, true, false, false] rfl rfl (by kernel_rfl) (by decide) (fun K hK => ?_)
                refine value_ (w1 := ?_) (v := ?_) (by rfl) rfl ?_ ?_
                rotate_left 2
                · go_simp
                  constructor
                  · rfl
                  · rfl
                refine hK.out _ _ trivial (fun _ => ?_)
                clear hK K
                refine norm_ (a' := ?_) ?_ ?_
                rotate_left
                · show Act.put _ (some 79) _ = _
                  simp only [Act.put, List.setIfInBounds_toArray, List.set_cons_zero, List.set_cons_succ, i64_w, i32_w]
                  rfl
                refine one_ (i := 14) (N := some 80) #[true, true, true, true, true, true, true, true, true, true, true, true, true, true, true, false] rfl rfl (by kernel_rfl) (by decide) (fun K hK => ?_)
                refine Kd.R_append_step k46 (w0 := w0) w0.heap.size (by rfl) (.tmp 66) (.tmp 79) 43 46 (.agg #[(.string ⟨#[]⟩), (.int .i64 0)]) 24 rfl Try.underlying43 info46 rfl (by decide) (by omega) u3 (l0.map sgQ ++ (l1.take j).map (mpQ l0)) (⟨strOfNums [(rd_T79 l1 (j : Int)).f0, (rd_T79 l1 (j : Int)).f1], wrap64 (valB l0 (rd_T79 l1 (j : Int)).f1 - valB l0 (rd_T79 l1 (j : Int)).f0)⟩ : S46) [.string (strOfNums [(rd_T79 l1 (j : Int)).f0, (rd_T79 l1 (j : Int)).f1]), .int .i64 (wrap64 (valB l0 (rd_T79 l1 (j : Int)).f1 - valB l0 (rd_T79 l1 (j : Int)).f0))] (fun k => k ≠ g) (fun _ => False) rfl rfl ?aPq9 (fun _ hk => hk.elim) ?aFq9 ?aOq9 ?aBq9 ?aSq9 ?aLq9 ?_
                (case aPq9 => exact k46_mkM _ _ _ (⟨strOfNums [(rd_T79 l1 (j : Int)).f0, (rd_T79 l1 (j : Int)).f1], wrap64 (valB l0 (rd_T79 l1 (j : Int)).f1 - valB l0 (rd_T79 l1 (j : Int)).f0)⟩ : S46))
                (case aBq9 => exact HW.out)
                (case aFq9 => exact HI.out.fresh)
                (case aOq9 => exact HR.out)
                (case aSq9 => exact HW.out.size)
                (case aLq9 => rw [List.length_append, List.length_map, List.length_map, List.length_take]; omega)
                intro v9 w9 ho hb hg hat
                rw [HWR.out] at ho
                have n1_ := Lib.hid (HI.out.grown hg (HI.out.own_ne HR.out (by decide)))
                have n0_ := Lib.hid ho
                have n2_ := Lib.hid hb
                clear HR HI HW
                have HR := n0_
                have HI := n1_
                have HW := n2_
                clear n0_ n1_ n2_ ho hb hg hat
                refine hK.out _ _ trivial (fun _ => ?_)
                clear hK K
                refine norm_ (a' := ?_) ?_ ?_
                rotate_left
                · show Act.put _ (some 80) _ = _
                  simp only [Act.put, List.setIfInBounds_toArray, List.set_cons_zero, List.set_cons_succ, i64_w, i32_w]
                  rfl
                refine pure_ (i := 15) (N := some 3) (v := ?_) (a' := ?_) #[true, true, true, true, true, true, true, true, true, true, true, true, true, true, true, true] rfl rfl (by kernel_rfl) (fun _ _ _ h => h) (Or.inl ⟨by rfl, ?_⟩) ?_ ?_
                rotate_left
                · intro w'
                  go_simp
                  with_reducible rfl
                rotate_left
                · simp only [Act.put, List.setIfInBounds_toArray, List.set_cons_zero, List.set_cons_succ, i64_w, i32_w]
                  rfl
                refine done_ (by kernel_rfl) ?_
                go_wp2
                go_roundw
                case measure => simp only [intOf]; omega
                case rel => exact ⟨j + 1, by omega, by go_num, Lib.hid (by rw [map_step (mpQ l0) l1 j hlt, ← EX.out, ← List.append_assoc]; exact HR.out), HI, HW⟩
              · refine goes_ Try.func30 (by kernel_rfl) rfl #[.pointer (some ⟨g, 0, none⟩), .int .u8 (rd_T79 l1 (j : Int)).f0] (by rfl) rfl rfl (by (try simp only [List.map_toArray, List.map_cons, List.map_nil]); first | done | rfl) ?_
                with_reducible refine (spec_l03Value.calls (l0.length + 1) g l0 l1 (rd_T79 l1 (j : Int)).f0 (valB l0 (rd_T79 l1 (j : Int)).f0) w0 _ HI.out HW.out (spec_l03Value.val l0 l1 (rd_T79 l1 (j : Int)).f0 hls HF.out (l0.length + 1) (by omega))).mono ?_
                rintro e wz10 ⟨rfl, hi, hb, hk⟩
                refine ⟨_, rfl, ?_⟩
                have n0_ := Lib.hid (Kd.R_keep HR.out hk (fun _ h => h))
                have n1_ := Lib.hid (hi)
                have n2_ := Lib.hid (hb)
                have n3_ := Lib.hid (hk.blk BP.out NX.out (by simp))
                clear HR HI HW
                have HR := n0_
                have HI := n1_
                have HW := n2_
                clear n0_ n1_ n2_
                clear BP
                have BP := n3_
                clear n3_
                clear hi hb hk
                refine hK.out _ _ trivial (fun _ => ?_)
                clear hK K
                refine norm_ (a' := ?_) ?_ ?_
                rotate_left
                · show Act.put _ (some 76) _ = _
                  simp only [Act.put, List.setIfInBounds_toArray, List.set_cons_zero, List.set_cons_succ, i64_w, i32_w]
                  rfl
                refine pure_ (i := 11) (N := some 77) (v := ?_) (a' := ?_) #[true, true, true, true, false, true, true, true, true, true, true, true, false, false, false, false] rfl rfl (by kernel_rfl) (fun _ _ _ h => h) (Or.inl ⟨by rfl, ?_⟩) ?_ ?_
                rotate_left
                · intro w'
                  go_simp
                  with_reducible rfl
                rotate_left
                · simp only [Act.put, List.setIfInBounds_toArray, List.set_cons_zero, List.set_cons_succ, i64_w, i32_w]
                  rfl
                refine one_ (i := 4) (N := some 70) #[true, true, true, true, true, true, true, true, true, true, true, true, false, false, false, false] rfl rfl (by kernel_rfl) (by decide) (fun K hK => ?_)
                have hcv := run_convert_bytes_arg (P := Try.prog) wz10 70 5 Try.underlying70 Try.underlying5 X 0 2 2 [(rd_T79 l1 (j : Int)).f0, (rd_T79 l1 (j : Int)).f1] rfl (two_cells ((blk_cell BP.out 0).trans rfl) ((blk_cell BP.out 1).trans rfl)) 9 Try.underlying9
                refine value_ (w1 := ?_) (v := ?_) (by rfl) rfl ?_ ?_
                rotate_left 2
                · go_simp
                  constructor
                  · rfl
                  · rfl
                clear hcv BP NX
                refine hK.out _ _ trivial (fun _ => ?_)
                clear hK K
                refine norm_ (a' := ?_) ?_ ?_
                rotate_left
                · show Act.put _ (some 70) _ = _
                  simp only [Act.put, List.setIfInBounds_toArray, List.set_cons_zero, List.set_cons_succ, i64_w, i32_w]
                  rfl
                refine pure_ (i := 12) (N := some 78) (v := ?_) (a' := ?_) #[true, true, true, true, true, true, true, true, true, true, true, true, true, false, false, false] rfl rfl (by kernel_rfl) (fun _ _ _ h => h) (Or.inl ⟨by rfl, ?_⟩) ?_ ?_
                rotate_left
                · intro w'
                  go_simp
                  with_reducible rfl
                rotate_left
                · simp only [Act.put, List.setIfInBounds_toArray, List.set_cons_zero, List.set_cons_succ, i64_w, i32_w]
                  rfl
                refine one_ (i := 13) (N := some 79) #[true, true, true, true, true, true, true, true, true, true, true, true, true, true, false, false] rfl rfl (by kernel_rfl) (by decide) (fun K hK => ?_)
                refine value_ (w1 := ?_) (v := ?_) (by rfl) rfl ?_ ?_
                rotate_left 2
                · go_simp
                  constructor
                  · rfl
                  · rfl
                refine hK.out _ _ trivial (fun _ => ?_)
                clear hK K
                refine norm_ (a' := ?_) ?_ ?_
                rotate_left
                · show Act.put _ (some 79) _ = _
                  simp only [Act.put, List.setIfInBounds_toArray, List.set_cons_zero, List.set_cons_succ, i64_w, i32_w]
                  rfl
                refine one_ (i := 14) (N := some 80) #[true, true, true, true, true, true, true, true, true, true, true, true, true, true, true, false] rfl rfl (by kernel_rfl) (by decide) (fun K hK => ?_)
                refine Kd.R_append_step k46 (w0 := w0) w0.heap.size (by rfl) (.tmp 66) (.tmp 79) 43 46 (.agg #[(.string ⟨#[]⟩), (.int .i64 0)]) 24 rfl Try.underlying43 info46 rfl (by decide) (by omega) u3 (l0.map sgQ ++ (l1.take j).map (mpQ l0)) (⟨strOfNums [(rd_T79 l1 (j : Int)).f0, (rd_T79 l1 (j : Int)).f1], wrap64 (valB l0 (rd_T79 l1 (j : Int)).f1 - valB l0 (rd_T79 l1 (j : Int)).f0)⟩ : S46) [.string (strOfNums [(rd_T79 l1 (j : Int)).f0, (rd_T79 l1 (j : Int)).f1]), .int .i64 (wrap64 (valB l0 (rd_T79 l1 (j : Int)).f1 - valB l0 (rd_T79 l1 (j : Int)).f0))] (fun k => k ≠ g) (fun _ => False) rfl rfl ?aPq12 (fun _ hk => hk.elim) ?aFq12 ?aOq12 ?aBq12 ?aSq12 ?aLq12 ?_
                (case aPq12 => exact k46_mkM _ _ _ (⟨strOfNums [(rd_T79 l1 (j : Int)).f0, (rd_T79 l1 (j : Int)).f1], wrap64 (valB l0 (rd_T79 l1 (j : Int)).f1 - valB l0 (rd_T79 l1 (j : Int)).f0)⟩ : S46))
                (case aBq12 => exact HW.out)
                (case aFq12 => exact HI.out.fresh)
                (case aOq12 => exact HR.out)
                (case aSq12 => exact HW.out.size)
                (case aLq12 => rw [List.length_append, List.length_map, List.length_map, List.length_take]; omega)
                intro v9 w9 ho hb hg hat
                rw [HWR.out] at ho
                have n1_ := Lib.hid (HI.out.grown hg (HI.out.own_ne HR.out (by decide)))
                have n0_ := Lib.hid ho
                have n2_ := Lib.hid hb
                clear HR HI HW
                have HR := n0_
                have HI := n1_
                have HW := n2_
                clear n0_ n1_ n2_ ho hb hg hat
                refine hK.out _ _ trivial (fun _ => ?_)
                clear hK K
                refine norm_ (a' := ?_) ?_ ?_
                rotate_left
                · show Act.put _ (some 80) _ = _
                  simp only [Act.put, List.setIfInBounds_toArray, List.set_cons_zero, List.set_cons_succ, i64_w, i32_w]
                  rfl
                refine pure_ (i := 15) (N := some 3) (v := ?_) (a' := ?_) #[true, true, true, true, true, true, true, true, true, true, true, true, true, true, true, true] rfl rfl (by kernel_rfl) (fun _ _ _ h => h) (Or.inl ⟨by rfl, ?_⟩) ?_ ?_
                rotate_left
                · intro w'
                  go_simp
                  with_reducible rfl
                rotate_left
                · simp only [Act.put, List.setIfInBounds_toArray, List.set_cons_zero, List.set_cons_succ, i64_w, i32_w]
                  rfl
                refine done_ (by kernel_rfl) ?_
                go_wp2
                go_roundw
                case measure => simp only [intOf]; omega
                case rel => exact ⟨j + 1, by omega, by go_num, Lib.hid (by rw [map_step (mpQ l0) l1 j hlt, ← EX.out, ← List.append_assoc]; exact HR.out), HI, HW⟩
          · refine goes_ Try.func30 (by kernel_rfl) rfl #[.pointer (some ⟨g, 0, none⟩), .int .u8 (rd_T79 l1 (j : Int)).f1] (by rfl) rfl rfl (by (try simp only [List.map_toArray, List.map_cons, List.map_nil]); first | done | rfl) ?_
            with_reducible refine (spec_l03Value.calls (l0.length + 1) g l0 l1 (rd_T79 l1 (j : Int)).f1 (valB l0 (rd_T79 l1 (j : Int)).f1) w0 _ HI.out HW.out (spec_l03Value.val l0 l1 (rd_T79 l1 (j : Int)).f1 hls HF.out (l0.length + 1) (by omega))).mono ?_
            rintro e wz13 ⟨rfl, hi, hb, hk⟩
            refine ⟨_, rfl, ?_⟩
            have n0_ := Lib.hid (Kd.R_keep HR.out hk (fun _ h => h))
            have n1_ := Lib.hid (hi)
            have n2_ := Lib.hid (hb)
            clear HR HI HW
            have HR := n0_
            have HI := n1_
            have HW := n2_
            clear n0_ n1_ n2_
            clear hi hb hk
            refine hK.out _ _ trivial (fun _ => ?_)
            clear hK K
            refine norm_ (a' := ?_) ?_ ?_
            rotate_left
            · show Act.put _ (some 73) _ = _
              simp only [Act.put, List.setIfInBounds_toArray, List.set_cons_zero, List.set_cons_succ, i64_w, i32_w]
              rfl
            refine two_ (i := 3) (j := 10) (Ni := some 69) (Nj := some 76) #[true, true, true, true, false, true, true, true, true, true, false, false, false, false, false, false] #[true, true, true, false, false, true, true, true, true, true, true, false, false, false, false, false] rfl rfl rfl rfl (by kernel_rfl) (by decide) (by decide) (fun K hK => ?_) (fun K hK => ?_)
            · refine value_ (w1 := ?_) (v := ?_) (by rfl) rfl ?_ ?_
              rotate_left 2
              · go_simp
                constructor
                · rfl
                · rfl
              have BP := Lib.hid (heap_alloc_new wz13 (.cells #[.int .u8 (rd_T79 l1 (j : Int)).f0, .int .u8 (rd_T79 l1 (j : Int)).f1] 5))
              obtain ⟨X, hX⟩ : ∃ X, X = wz13.heap.size := ⟨_, rfl⟩
              rw [← hX] at BP ⊢
              have NX := Lib.hid (show X ≠ g by rw [hX]; exact HI.out.fresh _ (Nat.le_refl _))
              clear hX
              have n0_ := Lib.hid (Kd.R_alloc HR.out (.cells #[.int .u8 (rd_T79 l1 (j : Int)).f0, .int .u8 (rd_T79 l1 (j : Int)).f1] 5))
              have n1_ := Lib.hid (HI.out.alloc (.cells #[.int .u8 (rd_T79 l1 (j : Int)).f0, .int .u8 (rd_T79 l1 (j : Int)).f1] 5))
              have n2_ := Lib.hid (below_alloc HW.out (.cells #[.int .u8 (rd_T79 l1 (j : Int)).f0, .int .u8 (rd_T79 l1 (j : Int)).f1] 5))
              clear HR HI HW
              have HR := n0_
              have HI := n1_
              have HW := n2_
              clear n0_ n1_ n2_
              generalize wz13.alloc (.cells #[.int .u8 (rd_T79 l1 (j : Int)).f0, .int .u8 (rd_T79 l1 (j : Int)).f1] 5) = wz14 at HR HI HW BP ⊢
              refine hK.out _ _ trivial (fun _ => ?_)
              clear hK K
              refine norm_ (a' := ?_) ?_ ?_
              rotate_left
              · show Act.put _ (some 69) _ = _
                simp only [Act.put, List.setIfInBounds_toArray, List.set_cons_zero, List.set_cons_succ, i64_w, i32_w]
                rfl
              refine two_ (i := 4) (j := 10) (Ni := some 70) (Nj := some 76) #[true, true, true, true, true, true, true, true, true, true, false, false, false, false, false, false] #[true, true, true, true, false, true, true, true, true, true, true, false, false, false, false, false] rfl rfl rfl rfl (by kernel_rfl) (by decide) (by decide) (fun K hK => ?_) (fun K hK => ?_)
              · have hcv := run_convert_bytes_arg (P := Try.prog) wz14 70 5 Try.underlying70 Try.underlying5 X 0 2 2 [(rd_T79 l1 (j : Int)).f0, (rd_T79 l1 (j : Int)).f1] rfl (two_cells ((blk_cell BP.out 0).trans rfl) ((blk_cell BP.out 1).trans rfl)) 9 Try.underlying9
                refine value_ (w1 := ?_) (v := ?_) (by rfl) rfl ?_ ?_
                rotate_left 2
                · go_simp
                  constructor
                  · rfl
                  · rfl
                clear hcv BP NX
                refine hK.out _ _ trivial (fun _ => ?_)
                clear hK K
                refine norm_ (a' := ?_) ?_ ?_
                rotate_left
                · show Act.put _ (some 70) _ = _
                  simp only [Act.put, List.setIfInBounds_toArray, List.set_cons_zero, List.set_cons_succ, i64_w, i32_w]
                  rfl
                refine one_ (i := 10) (N := some 76) #[true, true, true, true, true, true, true, true, true, true, true, false, false, false, false, false] rfl rfl (by kernel_rfl) (by decide) (fun K hK => ?_)
                refine goes_ Try.func30 (by kernel_rfl) rfl #[.pointer (some ⟨g, 0, none⟩), .int .u8 (rd_T79 l1 (j : Int)).f0] (by rfl) rfl rfl (by (try simp only [List.map_toArray, List.map_cons, List.map_nil]); first | done | rfl) ?_
                with_reducible refine (spec_l03Value.calls (l0.length + 1) g l0 l1 (rd_T79 l1 (j : Int)).f0 (valB l0 (rd_T79 l1 (j : Int)).f0) w0 _ HI.out HW.out (spec_l03Value.val l0 l1 (rd_T79 l1 (j : Int)).f0 hls HF.out (l0.length + 1) (by omega))).mono ?_
                rintro e wz16 ⟨rfl, hi, hb, hk⟩
                refine ⟨_, rfl, ?_⟩
                have n0_ := Lib.hid (Kd.R_keep HR.out hk (fun _ h => h))
                have n1_ := Lib.hid (hi)
                have n2_ := Lib.hid (hb)
                clear HR HI HW
                have HR := n0_
                have HI := n1_
                have HW := n2_
                clear n0_ n1_ n2_
                clear hi hb hk
                refine hK.out _ _ trivial (fun _ => ?_)
                clear hK K
                refine norm_ (a' := ?_) ?_ ?_
                rotate_left
                · show Act.put _ (some 76) _ = _
                  simp only [Act.put, List.setIfInBounds_toArray, List.set_cons_zero, List.set_cons_succ, i64_w, i32_w]
                  rfl
                refine pure_ (i := 11) (N := some 77) (v := ?_) (a' := ?_) #[true, true, true, true, true, true, true, true, true, true, true, true, false, false, false, false] rfl rfl (by kernel_rfl) (fun _ _ _ h => h) (Or.inl ⟨by rfl, ?_⟩) ?_ ?_
                rotate_left
                · intro w'
                  go_simp
                  with_reducible rfl
                rotate_left
                · simp only [Act.put, List.setIfInBounds_toArray, List.set_cons_zero, List.set_cons_succ, i64_w, i32_w]
                  rfl
                refine pure_ (i := 12) (N := some 78) (v := ?_) (a' := ?_) #[true, true, true, true, true, true, true, true, true, true, true, true, true, false, false, false] rfl rfl (by kernel_rfl) (fun _ _ _ h => h) (Or.inl ⟨by rfl, ?_⟩) ?_ ?_
                rotate_left
                · intro w'
                  go_simp
                  with_reducible rfl
                rotate_left
                · simp only [Act.put, List.setIfInBounds_toArray, List.set_cons_zero, List.set_cons_succ, i64_w, i32_w]
                  rfl
                refine one_ (i := 13) (N := some 79) #[true, true, true, true, true, true, true, true, true, true, true, true, true, true, false, false] rfl rfl (by kernel_rfl) (by decide) (fun K hK => ?_)
                refine value_ (w1 := ?_) (v := ?_) (by rfl) rfl ?_ ?_
                rotate_left 2
                · go_simp
                  constructor
                  · rfl
                  · rfl
                refine hK.out _ _ trivial (fun _ => ?_)
                clear hK K
                refine norm_ (a' := ?_) ?_ ?_
                rotate_left
                · show Act.put _ (some 79) _ = _
                  simp only [Act.put, List.setIfInBounds_toArray, List.set_cons_zero, List.set_cons_succ, i64_w, i32_w]
                  rfl
                refine one_ (i := 14) (N := some 80) #[true, true, true, true, true, true, true, true, true, true, true, true, true, true, true, false] rfl rfl (by kernel_rfl) (by decide) (fun K hK => ?_)
                refine Kd.R_append_step k46 (w0 := w0) w0.heap.size (by rfl) (.tmp 66) (.tmp 79) 43 46 (.agg #[(.string ⟨#[]⟩), (.int .i64 0)]) 24 rfl Try.underlying43 info46 rfl (by decide) (by omega) u3 (l0.map sgQ ++ (l1.take j).map (mpQ l0)) (⟨strOfNums [(rd_T79 l1 (j : Int)).f0, (rd_T79 l1 (j : Int)).f1], wrap64 (valB l0 (rd_T79 l1 (j : Int)).f1 - valB l0 (rd_T79 l1 (j : Int)).f0)⟩ : S46) [.string (strOfNums [(rd_T79 l1 (j : Int)).f0, (rd_T79 l1 (j : Int)).f1]), .int .i64 (wrap64 (valB l0 (rd_T79 l1 (j : Int)).f1 - valB l0 (rd_T79 l1 (j : Int)).f0))] (fun k => k ≠ g) (fun _ => False) rfl rfl ?aPq17 (fun _ hk => hk.elim) ?aFq17 ?aOq17 ?aBq17 ?aSq17 ?aLq17 ?_
                (case aPq17 => exact k46_mkM _ _ _ (⟨strOfNums [(rd_T79 l1 (j : Int)).f0, (rd_T79 l1 (j : Int)).f1], wrap64 (valB l0 (rd_T79 l1 (j : Int)).f1 - valB l0 (rd_T79 l1 (j : Int)).f0)⟩ : S46))
                (case aBq17 => exact HW.out)
                (case aFq17 => exact HI.out.fresh)
                (case aOq17 => exact HR.out)
                (case aSq17 => exact HW.out.size)
                (case aLq17 => rw [List.length_append, List.length_map, List.length_map, List.length_take]; omega)
                intro v9 w9 ho hb hg hat
                rw [HWR.out] at ho
                have n1_ := Lib.hid (HI.out.grown hg (HI.out.own_ne HR.out (by decide)))
                have n0_ := Lib.hid ho
                have n2_ := Lib.hid hb
                clear HR HI HW
                have HR := n0_
                have HI := n1_
                have HW := n2_
                clear n0_ n1_ n2_ ho hb hg hat
                refine hK.out _ _ trivial (fun _ => ?_)
                clear hK K
                refine norm_ (a' := ?_) ?_ ?_
                rotate_left
                · show Act.put _ (some 80) _ = _
                  simp only [Act.put, List.setIfInBounds_toArray, List.set_cons_zero, List.set_cons_succ, i64_w, i32_w]
                  rfl
                refine pure_ (i := 15) (N := some 3) (v := ?_) (a' := ?_) #[true, true, true, true, true, true, true, true, true, true, true, true, true, true, true, true] rfl rfl (by kernel_rfl) (fun _ _ _ h => h) (Or.inl ⟨by rfl, ?_⟩) ?_ ?_
                rotate_left
                · intro w'
                  go_simp
                  with_reducible rfl
                rotate_left
                · simp only [Act.put, List.setIfInBounds_toArray, List.set_cons_zero, List.set_cons_succ, i64_w, i32_w]
                  rfl
                refine done_ (by kernel_rfl) ?_
                go_wp2
                go_roundw
                case measure => simp only [intOf]; omega
                case rel => exact ⟨j + 1, by omega, by go_num, Lib.hid (by rw [map_step (mpQ l0) l1 j hlt, ← EX.out, ← List.append_assoc]; exact HR.out), HI, HW⟩
              · refine goes_ Try.func30 (by kernel_rfl) rfl #[.pointer (some ⟨g, 0, none⟩), .int .u8 (rd_T79 l1 (j : Int)).f0] (by rfl) rfl rfl (by (try simp only [List.map_toArray, List.map_cons, List.map_nil]); first | done | rfl) ?_
                with_reducible refine (spec_l03Value.calls (l0.length + 1) g l0 l1 (rd_T79 l1 (j : Int)).f0 (valB l0 (rd_T79 l1 (j : Int)).f0) w0 _ HI.out HW.out (spec_l03Value.val l0 l1 (rd_T79 l1 (j : Int)).f0 hls HF.out (l0.length + 1) (by omega))).mono ?_
                rintro e wz18 ⟨rfl, hi, hb, hk⟩
                refine ⟨_, rfl, ?_⟩
                have n0_ := Lib.hid (Kd.R_keep HR.out hk (fun _ h => h))
                have n1_ := Lib.hid (hi)
                have n2_ := Lib.hid (hb)
                have n3_ := Lib.hid (hk.blk BP.out NX.out (by simp))
                clear HR HI HW
                have HR := n0_
                have HI := n1_
                have HW := n2_
                clear n0_ n1_ n2_
                clear BP
                have BP := n3_
                clear n3_
                clear hi hb hk
                refine hK.out _ _ trivial (fun _ => ?_)
                clear hK K
                refine norm_ (a' := ?_) ?_ ?_
                rotate_left
                · show Act.put _ (some 76) _ = _
                  simp only [Act.put, List.setIfInBounds_toArray, List.set_cons_zero, List.set_cons_succ, i64_w, i32_w]
                  rfl
                refine pure_ (i := 11) (N := some 77) (v := ?_) (a' := ?_) #[true, true, true, true, false, true, true, true, true, true, true, true, false, false, false, false] rfl rfl (by kernel_rfl) (fun _ _ _ h => h) (Or.inl ⟨by rfl, ?_⟩) ?_ ?_
                rotate_left
                · intro w'
                  go_simp
                  with_reducible rfl
                rotate_left
                · simp only [Act.put, List.setIfInBounds_toArray, List.set_cons_zero, List.set_cons_succ, i64_w, i32_w]
                  rfl
                refine one_ (i := 4) (N := some 70) #[true, true, true, true, true, true, true, true, true, true, true, true, false, false, false, false] rfl rfl (by kernel_rfl) (by decide) (fun K hK => ?_)
                have hcv := run_convert_bytes_arg (P := Try.prog) wz18 70 5 Try.underlying70 Try.underlying5 X 0 2 2 [(rd_T79 l1 (j : Int)).f0, (rd_T79 l1 (j : Int)).f1] rfl (two_cells ((blk_cell BP.out 0).trans rfl) ((blk_cell BP.out 1).trans rfl)) 9 Try.underlying9
                refine value_ (w1 := ?_) (v := ?_) (by rfl) rfl ?_ ?_
                rotate_left 2
                · go_simp
                  constructor
                  · rfl
                  · rfl
                clear hcv BP NX
                refine hK.out _ _ trivial (fun _ => ?_)
                clear hK K
                refine norm_ (a' := ?_) ?_ ?_
                rotate_left
                · show Act.put _ (some 70) _ = _
                  simp only [Act.put, List.setIfInBounds_toArray, List.set_cons_zero, List.set_cons_succ, i64_w, i32_w]
                  rfl
                refine pure_ (i := 12) (N := some 78) (v := ?_) (a' := ?_) #[true, true, true, true, true, true, true, true, true, true, true, true, true, false, false, false] rfl rfl (by kernel_rfl) (fun _ _ _ h => h) (Or.inl ⟨by rfl, ?_⟩) ?_ ?_
                rotate_left
                · intro w'
                  go_simp
                  with_reducible rfl
                rotate_left
                · simp only [Act.put, List.setIfInBounds_toArray, List.set_cons_zero, List.set_cons_succ, i64_w, i32_w]
                  rfl
                refine one_ (i := 13) (N := some 79) #[true, true, true, true, true, true, true, true, true, true, true, true, true, true, false, false] rfl rfl (by kernel_rfl) (by decide) (fun K hK => ?_)
                refine value_ (w1 := ?_) (v := ?_) (by rfl) rfl ?_ ?_
                rotate_left 2
                · go_simp
                  constructor
                  · rfl
                  · rfl
                refine hK.out _ _ trivial (fun _ => ?_)
                clear hK K
                refine norm_ (a' := ?_) ?_ ?_
                rotate_left
                · show Act.put _ (some 79) _ = _
                  simp only [Act.put, List.setIfInBounds_toArray, List.set_cons_zero, List.set_cons_succ, i64_w, i32_w]
                  rfl
                refine one_ (i := 14) (N := some 80) #[true, true, true, true, true, true, true, true, true, true, true, true, true, true, true, false] rfl rfl (by kernel_rfl) (by decide) (fun K hK => ?_)
                refine Kd.R_append_step k46 (w0 := w0) w0.heap.size (by rfl) (.tmp 66) (.tmp 79) 43 46 (.agg #[(.string ⟨#[]⟩), (.int .i64 0)]) 24 rfl Try.underlying43 info46 rfl (by decide) (by omega) u3 (l0.map sgQ ++ (l1.take j).map (mpQ l0)) (⟨strOfNums [(rd_T79 l1 (j : Int)).f0, (rd_T79 l1 (j : Int)).f1], wrap64 (valB l0 (rd_T79 l1 (j : Int)).f1 - valB l0 (rd_T79 l1 (j : Int)).f0)⟩ : S46) [.string (strOfNums [(rd_T79 l1 (j : Int)).f0, (rd_T79 l1 (j : Int)).f1]), .int .i64 (wrap64 (valB l0 (rd_T79 l1 (j : Int)).f1 - valB l0 (rd_T79 l1 (j : Int)).f0))] (fun k => k ≠ g) (fun _ => False) rfl rfl ?aPq20 (fun _ hk => hk.elim) ?aFq20 ?aOq20 ?aBq20 ?aSq20 ?aLq20 ?_
                (case aPq20 => exact k46_mkM _ _ _ (⟨strOfNums [(rd_T79 l1 (j : Int)).f0, (rd_T79 l1 (j : Int)).f1], wrap64 (valB l0 (rd_T79 l1 (j : Int)).f1 - valB l0 (rd_T79 l1 (j : Int)).f0)⟩ : S46))
                (case aBq20 => exact HW.out)
                (case aFq20 => exact HI.out.fresh)
                (case aOq20 => exact HR.out)
                (case aSq20 => exact HW.out.size)
                (case aLq20 => rw [List.length_append, List.length_map, List.length_map, List.length_take]; omega)
                intro v9 w9 ho hb hg hat
                rw [HWR.out] at ho
                have n1_ := Lib.hid (HI.out.grown hg (HI.out.own_ne HR.out (by decide)))
                have n0_ := Lib.hid ho
                have n2_ := Lib.hid hb
                clear HR HI HW
                have HR := n0_
                have HI := n1_
                have HW := n2_
                clear n0_ n1_ n2_ ho hb hg hat
                refine hK.out _ _ trivial (fun _ => ?_)
                clear hK K
                refine norm_ (a' := ?_) ?_ ?_
                rotate_left
                · show Act.put _ (some 80) _ = _
                  simp only [Act.put, List.setIfInBounds_toArray, List.set_cons_zero, List.set_cons_succ, i64_w, i32_w]
                  rfl
                refine pure_ (i := 15) (N := some 3) (v := ?_) (a' := ?_) #[true, true, true, true, true, true, true, true, true, true, true, true, true, true, true, true] rfl rfl (by kernel_rfl) (fun _ _ _ h => h) (Or.inl ⟨by rfl, ?_⟩) ?_ ?_
                rotate_left
                · intro w'
                  go_simp
                  with_reducible rfl
                rotate_left
                · simp only [Act.put, List.setIfInBounds_toArray, List.set_cons_zero, List.set_cons_succ, i64_w, i32_w]
                  rfl
                refine done_ (by kernel_rfl) ?_
                go_wp2
                go_roundw
                case measure => simp only [intOf]; omega
                case rel => exact ⟨j + 1, by omega, by go_num, Lib.hid (by rw [map_step (mpQ l0) l1 j hlt, ← EX.out, ← List.append_assoc]; exact HR.out), HI, HW⟩
            · refine goes_ Try.func30 (by kernel_rfl) rfl #[.pointer (some ⟨g, 0, none⟩), .int .u8 (rd_T79 l1 (j : Int)).f0] (by rfl) rfl rfl (by (try simp only [List.map_toArray, List.map_cons, List.map_nil]); first | done | rfl) ?_
              with_reducible refine (spec_l03Value.calls (l0.length + 1) g l0 l1 (rd_T79 l1 (j : Int)).f0 (valB l0 (rd_T79 l1 (j : Int)).f0) w0 _ HI.out HW.out (spec_l03Value.val l0 l1 (rd_T79 l1 (j : Int)).f0 hls HF.out (l0.length + 1) (by omega))).mono ?_
              rintro e wz21 ⟨rfl, hi, hb, hk⟩
              refine ⟨_, rfl, ?_⟩
              have n0_ := Lib.hid (Kd.R_keep HR.out hk (fun _ h => h))
              have n1_ := Lib.hid (hi)
              have n2_ := Lib.hid (hb)
              clear HR HI HW
              have HR := n0_
              have HI := n1_
              have HW := n2_
              clear n0_ n1_ n2_
              clear hi hb hk
              refine hK.out _ _ trivial (fun _ => ?_)
              clear hK K
              refine norm_ (a' := ?_) ?_ ?_
              rotate_left
              · show Act.put _ (some 76) _ = _
                simp only [Act.put, List.setIfInBounds_toArray, List.set_cons_zero, List.set_cons_succ, i64_w, i32_w]
                rfl
              refine pure_ (i := 11) (N := some 77) (v := ?_) (a' := ?_) #[true, true, true, false, false, true, true, true, true, true, true, true, false, false, false, false] rfl rfl (by kernel_rfl) (fun _ _ _ h => h) (Or.inl ⟨by rfl, ?_⟩) ?_ ?_
              rotate_left
              · intro w'
                go_simp
                with_reducible rfl
              rotate_left
              · simp only [Act.put, List.setIfInBounds_toArray, List.set_cons_zero, List.set_cons_succ, i64_w, i32_w]
                rfl
              refine one_ (i := 3) (N := some 69) #[true, true, true, true, false, true, true, true, true, true, true, true, false, false, false, false] rfl rfl (by kernel_rfl) (by decide) (fun K hK => ?_)
              refine value_ (w1 := ?_) (v := ?_) (by rfl) rfl ?_ ?_
              rotate_left 2
              · go_simp
                constructor
                · rfl
                · rfl
              have BP := Lib.hid (heap_alloc_new wz21 (.cells #[.int .u8 (rd_T79 l1 (j : Int)).f0, .int .u8 (rd_T79 l1 (j : Int)).f1] 5))
              obtain ⟨X, hX⟩ : ∃ X, X = wz21.heap.size := ⟨_, rfl⟩
              rw [← hX] at BP ⊢
              have NX := Lib.hid (show X ≠ g by rw [hX]; exact HI.out.fresh _ (Nat.le_refl _))
              clear hX
              have n0_ := Lib.hid (Kd.R_alloc HR.out (.cells #[.int .u8 (rd_T79 l1 (j : Int)).f0, .int .u8 (rd_T79 l1 (j : Int)).f1] 5))
              have n1_ := Lib.hid (HI.out.alloc (.cells #[.int .u8 (rd_T79 l1 (j : Int)).f0, .int .u8 (rd_T79 l1 (j : Int)).f1] 5))
              have n2_ := Lib.hid (below_alloc HW.out (.cells #[.int .u8 (rd_T79 l1 (j : Int)).f0, .int .u8 (rd_T79 l1 (j : Int)).f1] 5))
              clear HR HI HW
              have HR := n0_
              have HI := n1_
              have HW := n2_
              clear n0_ n1_ n2_
              generalize wz21.alloc (.cells #[.int .u8 (rd_T79 l1 (j : Int)).f0, .int .u8 (rd_T79 l1 (j : Int)).f1] 5) = wz22 at HR HI HW BP ⊢
              refine hK.out _ _ trivial (fun _ => ?_)
              clear hK K
              refine norm_ (a' := ?_) ?_ ?_
              rotate_left
              · show Act.put _ (some 69) _ = _
                simp only [Act.put, List.setIfInBounds_toArray, List.set_cons_zero, List.set_cons_succ, i64_w, i32_w]
                rfl
              refine one_ (i := 4) (N := some 70) #[true, true, true, true, true, true, true, true, true, true, true, true, false, false, false, false] rfl rfl (by kernel_rfl) (by decide) (fun K hK => ?_)
              have hcv := run_convert_bytes_arg (P := Try.prog) wz22 70 5 Try.underlying70 Try.underlying5 X 0 2 2 [(rd_T79 l1 (j : Int)).f0, (rd_T79 l1 (j : Int)).f1] rfl (two_cells ((blk_cell BP.out 0).trans rfl) ((blk_cell BP.out 1).trans rfl)) 9 Try.underlying9
              refine value_ (w1 := ?_) (v := ?_) (by rfl) rfl ?_ ?_
              rotate_left 2
              · go_simp
                constructor
                · rfl
                · rfl
              clear hcv BP NX
              refine hK.out _ _ trivial (fun _ => ?_)
              clear hK K
              refine norm_ (a' := ?_) ?_ ?_
              rotate_left
              · show Act.put _ (some 70) _ = _
                simp only [Act.put, List.setIfInBounds_toArray, List.set_cons_zero, List.set_cons_succ, i64_w, i32_w]
                rfl
              refine pure_ (i := 12) (N := some 78) (v := ?_) (a' := ?_) #[true, true, true, true, true, true, true, true, true, true, true, true, true, false, false, false] rfl rfl (by kernel_rfl) (fun _ _ _ h => h) (Or.inl ⟨by rfl, ?_⟩) ?_ ?_
              rotate_left
              · intro w'
                go_simp
                with_reducible rfl
              rotate_left
              · simp only [Act.put, List.setIfInBounds_toArray, List.set_cons_zero, List.set_cons_succ, i64_w, i32_w]
                rfl
              refine one_ (i := 13) (N := some 79) #[true, true, true, true, true, true, true, true, true, true, true, true, true, true, false, false] rfl rfl (by kernel_rfl) (by decide) (fun K hK => ?_)
              refine value_ (w1 := ?_) (v := ?_) (by rfl) rfl ?_ ?_
              rotate_left 2
              · go_simp
                constructor
                · rfl
                · rfl
              refine hK.out _ _ trivial (fun _ => ?_)
              clear hK K
              refine norm_ (a' := ?_) ?_ ?_
              rotate_left
              · show Act.put _ (some 79) _ = _
                simp only [Act.put, List.setIfInBounds_toArray, List.set_cons_zero, List.set_cons_succ, i64_w, i32_w]
                rfl
              refine one_ (i := 14) (N := some 80) #[true, true, true, true, true, true, true, true, true, true, true, true, true, true, true, false] rfl rfl (by kernel_rfl) (by decide) (fun K hK => ?_)
              refine Kd.R_append_step k46 (w0 := w0) w0.heap.size (by rfl) (.tmp 66) (.tmp 79) 43 46 (.agg #[(.string ⟨#[]⟩), (.int .i64 0)]) 24 rfl Try.underlying43 info46 rfl (by decide) (by omega) u3 (l0.map sgQ ++ (l1.take j).map (mpQ l0)) (⟨strOfNums [(rd_T79 l1 (j : Int)).f0, (rd_T79 l1 (j : Int)).f1], wrap64 (valB l0 (rd_T79 l1 (j : Int)).f1 - valB l0 (rd_T79 l1 (j : Int)).f0)⟩ : S46) [.string (strOfNums [(rd_T79 l1 (j : Int)).f0, (rd_T79 l1 (j : Int)).f1]), .int .i64 (wrap64 (valB l0 (rd_T79 l1 (j : Int)).f1 - valB l0 (rd_T79 l1 (j : Int)).f0))] (fun k => k ≠ g) (fun _ => False) rfl rfl ?aPq24 (fun _ hk => hk.elim) ?aFq24 ?aOq24 ?aBq24 ?aSq24 ?aLq24 ?_
              (case aPq24 => exact k46_mkM _ _ _ (⟨strOfNums [(rd_T79 l1 (j : Int)).f0, (rd_T79 l1 (j : Int)).f1], wrap64 (valB l0 (rd_T79 l1 (j : Int)).f1 - valB l0 (rd_T79 l1 (j : Int)).f0)⟩ : S46))
              (case aBq24 => exact HW.out)
              (case aFq24 => exact HI.out.fresh)
              (case aOq24 => exact HR.out)
              (case aSq24 => exact HW.out.size)
              (case aLq24 => rw [List.length_append, List.length_map, List.length_map, List.length_take]; omega)
              intro v9 w9 ho hb hg hat
              rw [HWR.out] at ho
              have n1_ := Lib.hid (HI.out.grown hg (HI.out.own_ne HR.out (by decide)))
              have n0_ := Lib.hid ho
              have n2_ := Lib.hid hb
              clear HR HI HW
              have HR := n0_
              have HI := n1_
              have HW := n2_
              clear n0_ n1_ n2_ ho hb hg hat
              refine hK.out _ _ trivial (fun _ => ?_)
              clear hK K
              refine norm_ (a' := ?_) ?_ ?_
              rotate_left
              · show Act.put _ (some 80) _ = _
                simp only [Act.put, List.setIfInBounds_toArray, List.set_cons_zero, List.set_cons_succ, i64_w, i32_w]
                rfl
              refine pure_ (i := 15) (N := some 3) (v := ?_) (a' := ?_) #[true, true, true, true, true, true, true, true, true, true, true, true, true, true, true, true] rfl rfl (by kernel_rfl) (fun _ _ _ h => h) (Or.inl ⟨by rfl, ?_⟩) ?_ ?_
              rotate_left
              · intro w'
                go_simp
                with_reducible rfl
              rotate_left
              · simp only [Act.put, List.setIfInBounds_toArray, List.set_cons_zero, List.set_cons_succ, i64_w, i32_w]
                rfl
              refine done_ (by kernel_rfl) ?_
              go_wp2
              go_roundw
              case measure => simp only [intOf]; omega
              case rel => exact ⟨j + 1, by omega, by go_num, Lib.hid (by rw [map_step (mpQ l0) l1 j hlt, ← EX.out, ← List.append_assoc]; exact HR.out), HI, HW⟩
        · have hlt2 : ¬ (j : Int) < (l1.length : Int) := by omega
          go_wp2
          go_ret
          have e0 : l0.map sgQ ++ l1.map (mpQ l0) = r := RR.out
          have HR9 := HR.out
          rw [List.take_of_length_le (show l1.length ≤ j by omega), e0] at HR9
          exact ⟨_, rfl, HR9, HI.out, HW.out⟩
end Go.Proofs.Ytnacfljfalkonaa.Q
