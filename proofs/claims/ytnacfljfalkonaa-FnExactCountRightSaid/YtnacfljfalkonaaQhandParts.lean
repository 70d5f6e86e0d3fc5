/- impl.System.parts by hand: all parts of a system, its letters first, then its pairs. -/
import Derived.Test.YtnacfljfalkonaaQpureValid
import Derived.Outline
import Derived.Lib.Hide
import Derived.BigRegion
import Derived.Deep.RegionHeld3
import Derived.Laws.BytesArg
namespace Go.Proofs.Ytnacfljfalkonaa.Q
open Go.RowKit Go.Proofs.YtnacfljfalkonaaW.PrintWords Go.Proofs.YtnacfljfalkonaaW.PrintLast Go.Proofs.YtnacfljfalkonaaW.PrintMore
open Go.Proofs.Ytnacfljfalkonaa.Pure
set_option linter.unusedVariables false
set_option linter.unusedSimpArgs false

def sgP (x : SG) : S52 := ⟨strOfNums [x.f0], x.f1⟩
def mpP (s : List SG) (p : MP) : S52 := ⟨strOfNums [p.f0, p.f1], valB s p.f1 - valB s p.f0⟩
def piecesP (s : List SG) (m : List MP) : List S52 := s.map sgP ++ m.map (mpP s)
def impl_System_parts.f (s : List SG) (m : List MP) : Option (List S52) := if s.length ≤ 1048576 ∧ m.length ≤ 1048576 ∧ (s.all (fun x => decide (-32768 ≤ x.f1) && decide (x.f1 ≤ 32767))) = true then some (piecesP s m) else none
theorem fit16_ofP {s : List SG} (h : (s.all (fun x => decide (-32768 ≤ x.f1) && decide (x.f1 ≤ 32767))) = true) : fit16 s := fun x hx => by
  have := List.all_eq_true.1 h x hx
  simpa using this
theorem map_step {α β : Type} (f : α → β) (l : List α) (k : Nat) (h : k < l.length) : (l.take (k + 1)).map f = (l.take k).map f ++ [f l[k]] := by
  rw [List.take_succ_eq_append_getElem h, List.map_append]
  rfl

theorem two_cells {w : World} {g : Nat} {a b : Int} (h0 : w.cell? ⟨g, 0, none⟩ = some (.int .u8 a)) (h1 : w.cell? ⟨g, 1, none⟩ = some (.int .u8 b)) (i : Nat) (hi : i < 2) : w.cell? ⟨g, 0 + i, none⟩ = some (.int .u8 ([a, b].getD i 0)) := by
  have : i = 0 ∨ i = 1 := by omega
  rcases this with rfl | rfl
  · exact h0
  · exact h1

set_option maxRecDepth 20000 in
set_option maxHeartbeats 8000000 in
theorem impl_System_parts.calls (A0_0 : Option Addr) (c0_0 : Nat) (l0_0 : List SG) (A0_1 : Option Addr) (c0_1 : Nat) (l0_1 : List MP) (r : List S52) (w : World) (hr0_0 : Kd.C k77 w A0_0 l0_0.length l0_0) (hc0_0 : l0_0.length ≤ c0_0) (hr0_1 : Kd.C k79 w A0_1 l0_1.length l0_1) (hc0_1 : l0_1.length ≤ c0_1) (h : impl_System_parts.f l0_0 l0_1 = some r) :
    Calls Try.prog 21 #[.agg #[.slice A0_0 l0_0.length c0_0, .slice A0_1 l0_1.length c0_1]] w fun e w' => ∃ v0_ : Value, e = .returned (v0_) ∧ Kd.R k52 52 w' w.heap.size (fun _ => True) v0_ r ∧ Below w.heap.size w w' := by
  unfold impl_System_parts.f at h
  split at h
  rotate_left
  · cases h
  rename_i hb
  obtain ⟨hls, hlm, hfb⟩ := hb
  have HF := Lib.hid (fit16_ofP hfb)
  have RR := Lib.hid (Option.some.inj h)
  clear h hfb
  have HR0 := Lib.hid hr0_0
  have HR1 := Lib.hid hr0_1
  have HC0 := Lib.hid hc0_0
  have HC1 := Lib.hid hc0_1
  clear hr0_0 hr0_1 hc0_0 hc0_1
  have HB1 := Lib.hid (below_alloc (Below.refl w.heap.size w) (.cells #[.slice A0_0 l0_0.length c0_0, .slice A0_1 l0_1.length c0_1] 31))
  have HBK := Lib.hid (heap_alloc_new w (.cells #[.slice A0_0 l0_0.length c0_0, .slice A0_1 l0_1.length c0_1] 31))
  have HZ := Lib.hid (show (w.alloc (.cells #[.slice A0_0 l0_0.length c0_0, .slice A0_1 l0_1.length c0_1] 31)).heap.size = w.heap.size + 1 by simp)
  go_enter Try.func21, Try.ntmps21
  go_wp2_with (first | ((with_reducible refine gate_dst (N := 8) rfl ?_); refine Kd.R_lit k52 (w0 := (w.alloc (.cells #[.slice A0_0 l0_0.length c0_0, .slice A0_1 l0_1.length c0_1] 31))) (w.alloc (.cells #[.slice A0_0 l0_0.length c0_0, .slice A0_1 l0_1.length c0_1] 31)).heap.size 52 ?hg (N := 8) ?hd (xs := ([] : List S52)) (inner := []) (ok := fun _ => True) (okp := fun _ => True) ?hr ?hp (fun _ hk => hk) trivial (Below.refl _ _) (Nat.le_refl _) (by simp) ?_; (case hd => rfl); (case hg => rfl); (case hr => first | (go_simp; done) | (go_simp; rfl)); (case hp => exact (Reps.none _ _)); intro v0 w7 ho8 hb hg_ hnew_; have HO := Lib.hid ho8; have HB7 := Lib.hid hb; have hd0 : w7.cell? ⟨w.heap.size, 0, none⟩ = some (.slice A0_0 l0_0.length c0_0) := pw_cell_below (w := (w.alloc (.cells #[.slice A0_0 l0_0.length c0_0, .slice A0_1 l0_1.length c0_1] 31))) hb ((blk_cell HBK.out 0).trans rfl); clear ho8 hb hg_ hnew_))
  clear hd0
  go_loopw [3, 12] (fun v i wr => ∃ k : Nat, k ≤ l0_0.length ∧ i = .int .i64 k ∧ RowKit.Hid (Kd.R k52 52 wr (w.alloc (.cells #[.slice A0_0 l0_0.length c0_0, .slice A0_1 l0_1.length c0_1] 31)).heap.size (fun _ => True) v ((l0_0.take k).map sgP)) ∧ RowKit.Hid (Below (w.alloc (.cells #[.slice A0_0 l0_0.length c0_0, .slice A0_1 l0_1.length c0_1] 31)).heap.size (w.alloc (.cells #[.slice A0_0 l0_0.length c0_0, .slice A0_1 l0_1.length c0_1] 31)) wr)) (fun _ i _ => l0_0.length - (intOf i).toNat)
  case atStart => exact ⟨0, Nat.zero_le _, rfl, HO, HB7⟩
  case round =>
    obtain ⟨k, hk, rfl, HR, HW⟩ := hrel
    have HW0 := Lib.hid (below_step HB1.out HW.out)
    have HBW := Lib.hid ((HW.out.block w.heap.size (by rw [HZ.out]; omega)).trans HBK.out)
    have hd1 : wr.cell? ⟨w.heap.size, 1, none⟩ = some (.slice A0_1 l0_1.length c0_1) := (blk_cell HBW.out 1).trans rfl
    by_cases hlt : k < l0_0.length
    · have hlt2 : (k : Int) < (l0_0.length : Int) := by omega
      obtain ⟨ad2, ea, hx, hy⟩ := at_T77 (Kd.C_below HR0.out HW0.out) (k : Nat) (by omega) (by omega)
      cases ea
      simp only [Int.toNat_natCast] at hx hy
      have hfit := HF.out _ (List.getElem_mem hlt)
      rw [← rdSG_get _ _ hlt] at hfit
      obtain ⟨hfit0, hfit1⟩ := hfit
      have EX := Lib.hid (rdSG_get _ _ hlt)
      have hX : ((wr.alloc (.cells #[.int .u8 (rd_T77 l0_0 (k : Int)).f0, .int .i16 (rd_T77 l0_0 (k : Int)).f1] 77)).alloc (.cells #[.int .u8 (rd_T77 l0_0 (k : Int)).f0] 5)).cell? ⟨wr.heap.size + 1, 0, none⟩ = some (.int .u8 (rd_T77 l0_0 (k : Int)).f0) := by
        have h0 := (blk_cell (heap_alloc_new (wr.alloc (.cells #[.int .u8 (rd_T77 l0_0 (k : Int)).f0, .int .i16 (rd_T77 l0_0 (k : Int)).f1] 77)) (.cells #[.int .u8 (rd_T77 l0_0 (k : Int)).f0] 5)) 0)
        rw [show (wr.alloc (.cells #[.int .u8 (rd_T77 l0_0 (k : Int)).f0, .int .i16 (rd_T77 l0_0 (k : Int)).f1] 77)).heap.size = wr.heap.size + 1 by simp] at h0
        exact h0.trans rfl
      have hcv := run_convert_bytes_arg (P := Try.prog) ((wr.alloc (.cells #[.int .u8 (rd_T77 l0_0 (k : Int)).f0, .int .i16 (rd_T77 l0_0 (k : Int)).f1] 77)).alloc (.cells #[.int .u8 (rd_T77 l0_0 (k : Int)).f0] 5)) 70 5 Try.underlying70 Try.underlying5 (wr.heap.size + 1) 0 1 1 [(rd_T77 l0_0 (k : Int)).f0] rfl (fun i hi => by obtain rfl : i = 0 := (by omega); exact hX) 9 Try.underlying9
      clear hX
      go_wp2_with (first | ((with_reducible refine gate_builtin (b := .append) (xs := #[.tmp 16, .tmp 25]) rfl ?_); at_builtin; refine Kd.R_append k52 (w0 := (w.alloc (.cells #[.slice (some ad2) l0_0.length c0_0, .slice A0_1 l0_1.length c0_1] 31))) (w.alloc (.cells #[.slice (some ad2) l0_0.length c0_0, .slice A0_1 l0_1.length c0_1] 31)).heap.size rfl (.tmp 16) (.tmp 25) 53 52 (.agg #[.string ⟨#[]⟩, .int .i64 0]) 24 rfl Try.underlying53 info52 rfl (by decide) (by omega) u3 ((l0_0.take k).map sgP) (sgP (rd_T77 l0_0 (k : Int))) [.string (strOfNums [(rd_T77 l0_0 (k : Int)).f0]), .int .i64 (rd_T77 l0_0 (k : Int)).f1] (fun _ => True) (fun _ => False) ?hS ?hX ?aP (fun _ hk => hk.elim) ?aF ?aO ?aB ?aS ?aL ?_; (case hS => rfl); (case hX => first | rfl | (go_simp; done) | (simp [World.alloc]; done) | (go_simp; rfl)); (case aP => exact k52_mkM _ _ _ _); (case aF => exact (fun _ _ => trivial)); (case aO => exact Kd.R_alloc (Kd.R_alloc HR.out _) _); (case aB => exact below_alloc (below_alloc HW.out _) _); (case aS => exact (below_alloc (below_alloc HW.out _) _).size); (case aL => rw [List.length_map, List.length_take]; omega); intro v2 w2 ho hb hg hat; have HR4 := Lib.hid ho; have HW4 := Lib.hid hb; clear ho hb hg hat))
      go_roundw
      case measure => simp only [intOf]; omega
      case rel => exact ⟨k + 1, by omega, by go_num, Lib.hid (by rw [map_step sgP l0_0 k hlt, ← EX.out]; exact HR4.out), HW4⟩
    · have hlt2 : ¬ (k : Int) < (l0_0.length : Int) := by omega
      have HR2 := Lib.hid (show Kd.R k52 52 wr (w.alloc (.cells #[.slice A0_0 l0_0.length c0_0, .slice A0_1 l0_1.length c0_1] 31)).heap.size (fun _ => True) u3 (l0_0.map sgP) by have := HR.out; rw [List.take_of_length_le (by omega)] at this; exact this)
      clear HR
      go_wp2
      clear hd1
      go_loopw [3, 31] (fun v i wr => ∃ j : Nat, j ≤ l0_1.length ∧ i = .int .i64 j ∧ RowKit.Hid (Kd.R k52 52 wr (w.alloc (.cells #[.slice A0_0 l0_0.length c0_0, .slice A0_1 l0_1.length c0_1] 31)).heap.size (fun _ => True) v (l0_0.map sgP ++ (l0_1.take j).map (mpP l0_0))) ∧ RowKit.Hid (Below (w.alloc (.cells #[.slice A0_0 l0_0.length c0_0, .slice A0_1 l0_1.length c0_1] 31)).heap.size (w.alloc (.cells #[.slice A0_0 l0_0.length c0_0, .slice A0_1 l0_1.length c0_1] 31)) wr)) (fun _ i _ => l0_1.length - (intOf i).toNat)
      case atStart => exact ⟨0, Nat.zero_le _, rfl, Lib.hid (by simpa using HR2.out), HW⟩
      case round =>
        clear HR2 HW0 HBW hlt2
        clear HW
        obtain ⟨j, hj, rfl, HR, HW⟩ := hrel
        by_cases hlt : j < l0_1.length
        · have hlt2 : (j : Int) < (l0_1.length : Int) := by omega
          obtain ⟨ad4, ea, hx, hy⟩ := at_T79 (Kd.C_below HR1.out (below_step HB1.out HW.out)) (j : Nat) (by omega) (by omega)
          cases ea
          simp only [Int.toNat_natCast] at hx hy
          have EX := Lib.hid (rdA2_get _ _ hlt)
          go_wp2
          have BK0 := Lib.hid ((HW.out.block w.heap.size (by rw [HZ.out]; omega)).trans HBK.out)
          have n0_ := Lib.hid (Kd.R_drew (Kd.R_alloc HR.out (.cells #[.int .u8 (rd_T79 l0_1 (j : Int)).f0, .int .u8 (rd_T79 l0_1 (j : Int)).f1] 79)))
          have n1_ := Lib.hid (blk_drew (blk_alloc BK0.out (.cells #[.int .u8 (rd_T79 l0_1 (j : Int)).f0, .int .u8 (rd_T79 l0_1 (j : Int)).f1] 79)))
          have n2_ := Lib.hid (below_drew1 (below_alloc HW.out (.cells #[.int .u8 (rd_T79 l0_1 (j : Int)).f0, .int .u8 (rd_T79 l0_1 (j : Int)).f1] 79)))
          have BP := Lib.hid (blk_drew (heap_alloc_new wr (.cells #[.int .u8 (rd_T79 l0_1 (j : Int)).f0, .int .u8 (rd_T79 l0_1 (j : Int)).f1] 79)))
          clear HR HW
          have HR := n0_
          have BK := n1_
          have HW := n2_
          clear n0_ n1_ n2_
          refine start_ (n := 16) (S := fun w' => w'.cell? ⟨w.heap.size, 0, none⟩ = some (.slice A0_0 l0_0.length c0_0) ∧ w'.cell? ⟨w.heap.size, 1, none⟩ = some (.slice (some ad4) l0_1.length c0_1) ∧ w'.cell? ⟨wr.heap.size, 0, none⟩ = some (.int .u8 (rd_T79 l0_1 (j : Int)).f0) ∧ w'.cell? ⟨wr.heap.size, 1, none⟩ = some (.int .u8 (rd_T79 l0_1 (j : Int)).f1)) (ds := []) #[false, false, false, false, false, false, false, false, false, false, false, false, false, false, false, false] (by kernel_rfl) rfl rfl ⟨(blk_cell BK.out 0).trans rfl, (blk_cell BK.out 1).trans rfl, (blk_cell BP.out 0).trans rfl, (blk_cell BP.out 1).trans rfl⟩ (fun hHeld => ?_)
          generalize (wr.alloc (.cells #[.int .u8 (rd_T79 l0_1 (j : Int)).f0, .int .u8 (rd_T79 l0_1 (j : Int)).f1] 79)).drew = wq at HR BK HW BP hHeld ⊢
          refine pure_ (i := 0) (N := some 35) (v := ?_) (a' := ?_) #[true, false, false, false, false, false, false, false, false, false, false, false, false, false, false, false] rfl rfl (by kernel_rfl) (fun _ _ _ h => h) (Or.inl ⟨by rfl, ?_⟩) ?_ ?_
          rotate_left
          · intro w'
            go_simp
            with_reducible rfl
          rotate_left
          · simp only [Act.put, List.setIfInBounds_toArray, List.set_cons_zero, List.set_cons_succ, i64_w, i32_w]
            rfl
          refine pure_ (i := 1) (N := some 36) (v := ?_) (a' := ?_) #[true, true, false, false, false, false, false, false, false, false, false, false, false, false, false, false] rfl rfl (by kernel_rfl) (fun _ _ _ h => h) (Or.inl ⟨by rfl, ?_⟩) ?_ ?_
          rotate_left
          · intro w'
            go_simp
            with_reducible rfl
          rotate_left
          · simp only [Act.put, List.setIfInBounds_toArray, List.set_cons_zero, List.set_cons_succ, i64_w, i32_w]
            rfl
          refine pure_ (i := 4) (N := some 39) (v := ?_) (a' := ?_) #[true, true, false, false, true, false, false, false, false, false, false, false, false, false, false, false] rfl rfl (by kernel_rfl) (fun _ _ _ h => h) (Or.inl ⟨by rfl, ?_⟩) ?_ ?_
          rotate_left
          · intro w'
            go_simp
            with_reducible rfl
          rotate_left
          · simp only [Act.put, List.setIfInBounds_toArray, List.set_cons_zero, List.set_cons_succ, i64_w, i32_w]
            rfl
          refine pure_ (i := 8) (N := some 43) (v := ?_) (a' := ?_) #[true, true, false, false, true, false, false, false, true, false, false, false, false, false, false, false] rfl rfl (by kernel_rfl) (fun _ _ _ h => h) (Or.inl ⟨by rfl, ?_⟩) ?_ ?_
          rotate_left
          · intro w'
            go_simp
            with_reducible rfl
          rotate_left
          · simp only [Act.put, List.setIfInBounds_toArray, List.set_cons_zero, List.set_cons_succ, i64_w, i32_w]
            rfl
          refine take_ (i := 2) (N := some 37) (v := ?_) (a' := ?_) #[true, true, true, false, true, false, false, false, true, false, false, false, false, false, false, false] rfl rfl (by kernel_rfl) (fun _ _ _ h => h) (Or.inl ⟨by rfl, ?_⟩) hHeld ?_ ?_
          rotate_left
          · rintro w' ⟨s0, s1, s2, s3⟩
            have hcv := run_convert_bytes_arg (P := Try.prog) w' 70 5 Try.underlying70 Try.underlying5 wr.heap.size 0 2 2 [(rd_T79 l0_1 (j : Int)).f0, (rd_T79 l0_1 (j : Int)).f1] rfl (two_cells s2 s3) 9 Try.underlying9
            go_simp
            with_reducible rfl
          rotate_left
          · simp only [Act.put, List.setIfInBounds_toArray, List.set_cons_zero, List.set_cons_succ, i64_w, i32_w]
            rfl
          refine take_ (i := 3) (N := some 38) (v := ?_) (a' := ?_) #[true, true, true, true, true, false, false, false, true, false, false, false, false, false, false, false] rfl rfl (by kernel_rfl) (fun _ _ _ h => h) (Or.inl ⟨by rfl, ?_⟩) hHeld ?_ ?_
          rotate_left
          · rintro w' ⟨s0, s1, s2, s3⟩
            go_simp
            with_reducible rfl
          rotate_left
          · simp only [Act.put, List.setIfInBounds_toArray, List.set_cons_zero, List.set_cons_succ, i64_w, i32_w]
            rfl
          refine take_ (i := 5) (N := some 40) (v := ?_) (a' := ?_) #[true, true, true, true, true, true, false, false, true, false, false, false, false, false, false, false] rfl rfl (by kernel_rfl) (fun _ _ _ h => h) (Or.inl ⟨by rfl, ?_⟩) hHeld ?_ ?_
          rotate_left
          · rintro w' ⟨s0, s1, s2, s3⟩
            go_simp
            with_reducible rfl
          rotate_left
          · simp only [Act.put, List.setIfInBounds_toArray, List.set_cons_zero, List.set_cons_succ, i64_w, i32_w]
            rfl
          refine take_ (i := 7) (N := some 42) (v := ?_) (a' := ?_) #[true, true, true, true, true, true, false, true, true, false, false, false, false, false, false, false] rfl rfl (by kernel_rfl) (fun _ _ _ h => h) (Or.inl ⟨by rfl, ?_⟩) hHeld ?_ ?_
          rotate_left
          · rintro w' ⟨s0, s1, s2, s3⟩
            go_simp
            with_reducible rfl
          rotate_left
          · simp only [Act.put, List.setIfInBounds_toArray, List.set_cons_zero, List.set_cons_succ, i64_w, i32_w]
            rfl
          refine take_ (i := 9) (N := some 44) (v := ?_) (a' := ?_) #[true, true, true, true, true, true, false, true, true, true, false, false, false, false, false, false] rfl rfl (by kernel_rfl) (fun _ _ _ h => h) (Or.inl ⟨by rfl, ?_⟩) hHeld ?_ ?_
          rotate_left
          · rintro w' ⟨s0, s1, s2, s3⟩
            go_simp
            with_reducible rfl
          rotate_left
          · simp only [Act.put, List.setIfInBounds_toArray, List.set_cons_zero, List.set_cons_succ, i64_w, i32_w]
            rfl
          refine one_ (i := 6) (N := some 41) #[true, true, true, true, true, true, true, true, true, true, false, false, false, false, false, false] rfl rfl (by kernel_rfl) (by decide) (fun K hK => ?_)
          refine goes_ Try.func37 (by kernel_rfl) rfl #[.agg #[.slice A0_0 l0_0.length c0_0, .slice (some ad4) l0_1.length c0_1], .int .u8 (rd_T79 l0_1 (j : Int)).f1] (by rfl) rfl rfl (by (try simp only [List.map_toArray, List.map_cons, List.map_nil]); first | done | rfl) ?_
          with_reducible refine (impl_System_value.calls 1048577 _ _ l0_0 _ _ l0_1 (rd_T79 l0_1 (j : Int)).f1 (valB l0_0 (rd_T79 l0_1 (j : Int)).f1) _ (Kd.C_below HR0.out (below_step HB1.out HW.out)) HC0.out (Kd.C_below HR1.out (below_step HB1.out HW.out)) HC1.out (impl_System_value.val l0_0 l0_1 (rd_T79 l0_1 (j : Int)).f1 hls HF.out 1048577 (by omega))).mono ?_
          rintro e w6 ⟨rfl, hb⟩
          refine ⟨_, rfl, ?_⟩
          have n0_ := Lib.hid (Kd.R_below HR.out hb)
          have n1_ := Lib.hid (blk_below BK.out hb)
          have n2_ := Lib.hid (below_step HW.out hb)
          have n3_ := Lib.hid (blk_below BP.out hb)
          clear HR BK HW BP hb
          have HR := n0_
          have BK := n1_
          have HW := n2_
          have BP := n3_
          clear n0_ n1_ n2_ n3_
          refine hK.out _ _ ⟨(blk_cell BK.out 0).trans rfl, (blk_cell BK.out 1).trans rfl, (blk_cell BP.out 0).trans rfl, (blk_cell BP.out 1).trans rfl⟩ (fun hHeld => ?_)
          clear hK K
          refine norm_ (a' := ?_) ?_ ?_
          rotate_left
          · show Act.put _ (some 41) _ = _
            simp only [Act.put, List.setIfInBounds_toArray, List.set_cons_zero, List.set_cons_succ, i64_w, i32_w]
            rfl
          refine one_ (i := 10) (N := some 45) #[true, true, true, true, true, true, true, true, true, true, true, false, false, false, false, false] rfl rfl (by kernel_rfl) (by decide) (fun K hK => ?_)
          refine goes_ Try.func37 (by kernel_rfl) rfl #[.agg #[.slice A0_0 l0_0.length c0_0, .slice (some ad4) l0_1.length c0_1], .int .u8 (rd_T79 l0_1 (j : Int)).f0] (by rfl) rfl rfl (by (try simp only [List.map_toArray, List.map_cons, List.map_nil]); first | done | rfl) ?_
          with_reducible refine (impl_System_value.calls 1048577 _ _ l0_0 _ _ l0_1 (rd_T79 l0_1 (j : Int)).f0 (valB l0_0 (rd_T79 l0_1 (j : Int)).f0) _ (Kd.C_below HR0.out (below_step HB1.out HW.out)) HC0.out (Kd.C_below HR1.out (below_step HB1.out HW.out)) HC1.out (impl_System_value.val l0_0 l0_1 (rd_T79 l0_1 (j : Int)).f0 hls HF.out 1048577 (by omega))).mono ?_
          rintro e w10 ⟨rfl, hb⟩
          refine ⟨_, rfl, ?_⟩
          have n0_ := Lib.hid (Kd.R_below HR.out hb)
          have n1_ := Lib.hid (blk_below BK.out hb)
          have n2_ := Lib.hid (below_step HW.out hb)
          have n3_ := Lib.hid (blk_below BP.out hb)
          clear HR BK HW BP hb
          have HR := n0_
          have BK := n1_
          have HW := n2_
          have BP := n3_
          clear n0_ n1_ n2_ n3_
          refine hK.out _ _ ⟨(blk_cell BK.out 0).trans rfl, (blk_cell BK.out 1).trans rfl, (blk_cell BP.out 0).trans rfl, (blk_cell BP.out 1).trans rfl⟩ (fun hHeld => ?_)
          clear hK K
          refine norm_ (a' := ?_) ?_ ?_
          rotate_left
          · show Act.put _ (some 45) _ = _
            simp only [Act.put, List.setIfInBounds_toArray, List.set_cons_zero, List.set_cons_succ, i64_w, i32_w]
            rfl
          have v1 := valB_le HF.out (rd_T79 l0_1 (j : Int)).f1
          have v0 := valB_le HF.out (rd_T79 l0_1 (j : Int)).f0
          have HWR := Lib.hid (show wrap64 (valB l0_0 (rd_T79 l0_1 (j : Int)).f1 - valB l0_0 (rd_T79 l0_1 (j : Int)).f0) = valB l0_0 (rd_T79 l0_1 (j : Int)).f1 - valB l0_0 (rd_T79 l0_1 (j : Int)).f0 from wrap_id (by omega) (by omega))
          clear v1 v0
          refine pure_ (i := 11) (N := some 46) (v := ?_) (a' := ?_) #[true, true, true, true, true, true, true, true, true, true, true, true, false, false, false, false] rfl rfl (by kernel_rfl) (fun _ _ _ h => h) (Or.inl ⟨by rfl, ?_⟩) ?_ ?_
          rotate_left
          · intro w'
            go_simp
            with_reducible rfl
          rotate_left
          · simp only [Act.put, List.setIfInBounds_toArray, List.set_cons_zero, List.set_cons_succ, i64_w, i32_w]
            rfl
          refine pure_ (i := 12) (N := some 47) (v := ?_) (a' := ?_) #[true, true, true, true, true, true, true, true, true, true, true, true, true, false, false, false] rfl rfl (by kernel_rfl) (fun _ _ _ h => h) (Or.inl ⟨by rfl, ?_⟩) ?_ ?_
          rotate_left
          · intro w'
            go_simp
            with_reducible rfl
          rotate_left
          · simp only [Act.put, List.setIfInBounds_toArray, List.set_cons_zero, List.set_cons_succ, i64_w, i32_w]
            rfl
          refine one_ (i := 13) (N := some 48) #[true, true, true, true, true, true, true, true, true, true, true, true, true, true, false, false] rfl rfl (by kernel_rfl) (by decide) (fun K hK => ?_)
          refine value_ (w1 := ?_) (v := ?_) (by rfl) rfl ?_ ?_
          rotate_left 2
          · go_simp
            constructor
            · rfl
            · rfl
          refine hK.out _ _ ⟨(blk_cell (blk_alloc BK.out _) 0).trans rfl, (blk_cell (blk_alloc BK.out _) 1).trans rfl, (blk_cell (blk_alloc BP.out _) 0).trans rfl, (blk_cell (blk_alloc BP.out _) 1).trans rfl⟩ (fun hHeld => ?_)
          clear hK K
          refine norm_ (a' := ?_) ?_ ?_
          rotate_left
          · show Act.put _ (some 48) _ = _
            simp only [Act.put, List.setIfInBounds_toArray, List.set_cons_zero, List.set_cons_succ, i64_w, i32_w]
            rfl
          refine one_ (i := 14) (N := some 49) #[true, true, true, true, true, true, true, true, true, true, true, true, true, true, true, false] rfl rfl (by kernel_rfl) (by decide) (fun K hK => ?_)
          refine Kd.R_append_step k52 (w0 := (w.alloc (.cells #[.slice A0_0 l0_0.length c0_0, .slice (some ad4) l0_1.length c0_1] 31))) (w.alloc (.cells #[.slice A0_0 l0_0.length c0_0, .slice (some ad4) l0_1.length c0_1] 31)).heap.size (by rfl) (.tmp 35) (.tmp 48) 53 52 (.agg #[(.string ⟨#[]⟩), (.int .i64 0)]) 24 rfl Try.underlying53 info52 rfl (by decide) (by omega) u3 (l0_0.map sgP ++ (l0_1.take j).map (mpP l0_0)) (⟨strOfNums [(rd_T79 l0_1 (j : Int)).f0, (rd_T79 l0_1 (j : Int)).f1], wrap64 (valB l0_0 (rd_T79 l0_1 (j : Int)).f1 - valB l0_0 (rd_T79 l0_1 (j : Int)).f0)⟩ : S52) [.string (strOfNums [(rd_T79 l0_1 (j : Int)).f0, (rd_T79 l0_1 (j : Int)).f1]), .int .i64 (wrap64 (valB l0_0 (rd_T79 l0_1 (j : Int)).f1 - valB l0_0 (rd_T79 l0_1 (j : Int)).f0))] (fun _ => True) (fun _ => False) rfl rfl ?aP (fun _ hk => hk.elim) ?aF ?aO ?aB ?aS ?aL ?_
          (case aP => exact k52_mkM _ _ _ (⟨strOfNums [(rd_T79 l0_1 (j : Int)).f0, (rd_T79 l0_1 (j : Int)).f1], wrap64 (valB l0_0 (rd_T79 l0_1 (j : Int)).f1 - valB l0_0 (rd_T79 l0_1 (j : Int)).f0)⟩ : S52))
          (case aB => exact HW.out)
          (case aF => exact (fun _ _ => trivial))
          (case aO => exact HR.out)
          (case aS => exact HW.out.size)
          (case aL => rw [List.length_append, List.length_map, List.length_map, List.length_take]; omega)
          intro v430 w34 ho hb hg hat
          rw [HWR.out] at ho
          have HO := Lib.hid ho
          have HWb := Lib.hid hb
          refine hK.out _ _ ⟨(blk_cell (blk_grown BK.out hg (Kd.R_ne HR.out BK.out (by decide))) 0).trans rfl, (blk_cell (blk_grown BK.out hg (Kd.R_ne HR.out BK.out (by decide))) 1).trans rfl, (blk_cell (blk_grown BP.out hg (Kd.R_ne HR.out BP.out (by decide))) 0).trans rfl, (blk_cell (blk_grown BP.out hg (Kd.R_ne HR.out BP.out (by decide))) 1).trans rfl⟩ (fun hHeld => ?_)
          clear hK K
          clear ho hb hg hat
          refine norm_ (a' := ?_) ?_ ?_
          rotate_left
          · show Act.put _ (some 49) _ = _
            simp only [Act.put, List.setIfInBounds_toArray, List.set_cons_zero, List.set_cons_succ, i64_w, i32_w]
            rfl
          refine pure_ (i := 15) (N := some 3) (v := ?_) (a' := ?_) #[true, true, true, true, true, true, true, true, true, true, true, true, true, true, true, true] rfl rfl (by kernel_rfl) (fun _ _ _ h => h) (Or.inl ⟨by rfl, ?_⟩) ?_ ?_
          rotate_left
          · intro w'
            go_simp
            with_reducible rfl
          rotate_left
          · simp only [Act.put, List.setIfInBounds_toArray, List.set_cons_zero, List.set_cons_succ, i64_w, i32_w]
            rfl
          refine done_ (by kernel_rfl) ?_
          go_wp2
          go_roundw
          case measure => simp only [intOf]; omega
          case rel => exact ⟨j + 1, by omega, by go_num, Lib.hid (by rw [map_step (mpP l0_0) l0_1 j hlt, ← EX.out, ← List.append_assoc]; exact HO.out), HWb⟩
        · have hlt2 : ¬ (j : Int) < (l0_1.length : Int) := by omega
          go_wp2
          go_ret
          have e0 : l0_0.map sgP ++ l0_1.map (mpP l0_0) = r := RR.out
          have HR9 := HR.out
          rw [List.take_of_length_le (show l0_1.length ≤ j by omega), e0] at HR9
          exact ⟨_, rfl, Kd.R_lower HR9 HB1.out.size, below_step HB1.out HW.out⟩
end Go.Proofs.Ytnacfljfalkonaa.Q
