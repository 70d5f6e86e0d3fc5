/- impl.ValidSystem by hand: it answers whether a system is valid. -/
import Derived.Test.YtnacfljfalkonaaQhandFuncSign
import Derived.Deep.RegionHeld3
namespace Go.Proofs.Ytnacfljfalkonaa.Q
open Go.RowKit Go.Proofs.YtnacfljfalkonaaW.PrintWords Go.Proofs.YtnacfljfalkonaaW.PrintLast Go.Proofs.YtnacfljfalkonaaW.PrintMore
open Go.Proofs.Ytnacfljfalkonaa.Pure
set_option linter.unusedVariables false

theorem impl_letter_is (a : Int) (b : Bool) (w : World) (h : letB a = b) : Calls Try.prog 36 #[.int .u8 a] w fun e w' => e = .returned (.bool b) ∧ w = w' := by
  subst h
  unfold letB
  by_cases h1 : 65 ≤ a
  · go_enter Try.func36, Try.ntmps36
    go_wp2
    go_ret
    exact ⟨by simp [h1], rfl⟩
  · go_enter Try.func36, Try.ntmps36
    go_wp2
    go_ret
    exact ⟨by simp; omega, rfl⟩
theorem impl_in_is (a lo hi : Int) (b : Bool) (w : World) (h : (decide (lo ≤ a) && decide (a ≤ hi)) = b) : Calls Try.prog 20 #[.int .i64 a, .int .i64 lo, .int .i64 hi] w fun e w' => e = .returned (.bool b) ∧ w = w' := by
  subst h
  by_cases h1 : lo ≤ a
  · go_enter Try.func20, Try.ntmps20
    go_wp2
    go_ret
    exact ⟨by simp [h1], rfl⟩
  · go_enter Try.func20, Try.ntmps20
    go_wp2
    go_ret
    exact ⟨by simp; omega, rfl⟩
theorem impl_letter_q (a : Int) (b : Bool) (w : World) (h : letB a = b) : Calls Try.prog 36 #[.int .u8 a] w fun e w' => e = .returned (.bool b) ∧ w' = w := (impl_letter_is a b w h).mono fun _ _ h => ⟨h.1, h.2.symm⟩
theorem impl_in_q (a lo hi : Int) (b : Bool) (w : World) (h : (decide (lo ≤ a) && decide (a ≤ hi)) = b) : Calls Try.prog 20 #[.int .i64 a, .int .i64 lo, .int .i64 hi] w fun e w' => e = .returned (.bool b) ∧ w' = w := (impl_in_is a lo hi b w h).mono fun _ _ h => ⟨h.1, h.2.symm⟩
theorem impl_size_is (A : Option Addr) (n c : Nat) (w : World) : Calls Try.prog 33 #[.slice A n c] w fun e w' => e = .returned (.int .i64 n) ∧ w = w' := by
  go_enter Try.func33, Try.ntmps33
  go_wp2
  go_ret
  exact ⟨rfl, rfl⟩
theorem ret_bI {a b : Bool} (h : a = b) : Ending.returned (.bool a) = .returned (.bool b) := by rw [h]
theorem fit16_ofI {s : List SG} (h : (s.all (fun x => decide (-32768 ≤ x.f1) && decide (x.f1 ≤ 32767))) = true) : fit16 s := fun x hx => by
  have := List.all_eq_true.1 h x hx
  simpa using this

def impl_ValidSystem.f (s : List SG) (m : List MP) : Option Bool := if s.length ≤ 1048576 ∧ m.length ≤ 1048576 ∧ (s.all (fun x => decide (-32768 ≤ x.f1) && decide (x.f1 ≤ 32767))) = true then some (okB s m) else none

theorem cmp8_val (a b : Int) : cmp_Compare_uint8.f a b = some (if a < b then -1 else if b < a then 1 else 0) := by
  unfold cmp_Compare_uint8.f cmp_isNaN_uint8.f
  simp only [bne_self_eq_false, Option.bind_some, Bool.false_eq_true, if_false]
  by_cases h1 : a < b
  · rw [if_pos h1, if_pos h1]
  · rw [if_neg h1, if_neg h1]
    by_cases h2 : b < a
    · rw [if_pos h2, if_pos h2]
    · rw [if_neg h2, if_neg h2]
theorem or2_val (x y : Int) : cmp_Or_int.f 3 [x, y] = some (if x = 0 then y else x) := by
  unfold cmp_Or_int.f
  simp only [cmp_Or_int.l0]
  have e0 : rd [x, y] 0 = x := rfl
  have e1 : rd [x, y] 1 = y := rfl
  have w1 : wrap64 1 = 1 := by unfold wrap64; omega
  have w2 : wrap64 2 = 2 := by unfold wrap64; omega
  by_cases h : x = 0
  · subst h
    by_cases h2 : y = 0
    · subst h2
      simp [e0, e1, w1, w2]
    · simp [e0, e1, w1, h2]
  · simp [e0, h]
/-- Below 0 where the first pair comes ahead. -/
theorem comparePair_val (p q : MP) : ∃ r, impl_comparePair.f 3 p.f0 p.f1 q.f0 q.f1 = some r ∧ decide (0 ≤ r) = !aheadB p q := by
  unfold impl_comparePair.f
  rw [cmp8_val, Option.bind_some, cmp8_val, Option.bind_some, or2_val, Option.bind_some]
  refine ⟨_, rfl, ?_⟩
  unfold aheadB
  rw [Bool.eq_iff_iff]
  simp only [decide_eq_true_iff, Bool.not_eq_true', Bool.or_eq_false_iff, Bool.and_eq_false_imp, decide_eq_false_iff_not]
  repeat' split
  all_goals omega

theorem keep5 {W w' W0 : World} {a b c d : Addr} {u v x y : Value} (h : W.cell? a = some u ∧ W.cell? b = some v ∧ W.cell? c = some x ∧ W.cell? d = some y ∧ RowKit.Hid (Below W0.heap.size W0 W)) (hb : Below W.heap.size W w') :
    w'.cell? a = some u ∧ w'.cell? b = some v ∧ w'.cell? c = some x ∧ w'.cell? d = some y ∧ RowKit.Hid (Below W0.heap.size W0 w') :=
  ⟨pw_cell_below hb h.1, pw_cell_below hb h.2.1, pw_cell_below hb h.2.2.1, pw_cell_below hb h.2.2.2.1, Lib.hid (below_step h.2.2.2.2.out hb)⟩
theorem keep6 {W w' W0 : World} {a b c d f : Addr} {u v x y z : Value} (h : W.cell? a = some u ∧ W.cell? b = some v ∧ W.cell? c = some x ∧ W.cell? d = some y ∧ W.cell? f = some z ∧ RowKit.Hid (Below W0.heap.size W0 W)) (hb : Below W.heap.size W w') :
    w'.cell? a = some u ∧ w'.cell? b = some v ∧ w'.cell? c = some x ∧ w'.cell? d = some y ∧ w'.cell? f = some z ∧ RowKit.Hid (Below W0.heap.size W0 w') :=
  ⟨pw_cell_below hb h.1, pw_cell_below hb h.2.1, pw_cell_below hb h.2.2.1, pw_cell_below hb h.2.2.2.1, pw_cell_below hb h.2.2.2.2.1, Lib.hid (below_step h.2.2.2.2.2.out hb)⟩
theorem heldB6 {W W0 : World} {a b c d f : Addr} {u v x y z : Value} (h : W.cell? a = some u ∧ W.cell? b = some v ∧ W.cell? c = some x ∧ W.cell? d = some y ∧ W.cell? f = some z ∧ RowKit.Hid (Below W0.heap.size W0 W)) : Below W0.heap.size W0 W := h.2.2.2.2.2.out
theorem heldB {W W0 : World} {a b c d : Addr} {u v x y : Value} (h : W.cell? a = some u ∧ W.cell? b = some v ∧ W.cell? c = some x ∧ W.cell? d = some y ∧ RowKit.Hid (Below W0.heap.size W0 W)) : Below W0.heap.size W0 W := h.2.2.2.2.out
set_option maxHeartbeats 8000000 in
set_option maxRecDepth 100000 in
theorem impl_ValidSystem.calls (A0_0 : Option Addr) (c0_0 : Nat) (s0_0 : List SG) (A0_1 : Option Addr) (c0_1 : Nat) (s0_1 : List MP) (r : Bool) (w : World) (hr0_0 : Kd.C k77 w A0_0 s0_0.length s0_0) (hc0_0 : s0_0.length ≤ c0_0) (hr0_1 : Kd.C k79 w A0_1 s0_1.length s0_1) (hc0_1 : s0_1.length ≤ c0_1) (h : impl_ValidSystem.f s0_0 s0_1 = some r) :
    Calls Try.prog 19 #[.agg #[.slice A0_0 s0_0.length c0_0, .slice A0_1 s0_1.length c0_1]] w fun e w' => e = .returned (.bool r) ∧ Below w.heap.size w w' := by
  unfold impl_ValidSystem.f at h
  split at h
  rotate_left
  · cases h
  rename_i hb
  obtain ⟨hls, hlm, hfb⟩ := hb
  have HF := Lib.hid (fit16_ofI hfb)
  have R := Lib.hid (Option.some.inj h)
  clear h hfb
  have HR0 := Lib.hid hr0_0
  have HR1 := Lib.hid hr0_1
  have HC0 := Lib.hid hc0_0
  have HC1 := Lib.hid hc0_1
  clear hr0_0 hr0_1 hc0_0 hc0_1
  by_cases h1 : s0_0.length = 0
  · have hd : (decide ((1 : Int) ≤ (s0_0.length : Int)) && decide ((s0_0.length : Int) ≤ 8)) = false := by simp; omega
    have E := Lib.hid (okB_head (s := s0_0) (m := s0_1) (by unfold headB; simp [h1]))
    clear h1
    go_enter Try.func19, Try.ntmps19
    go_wp2_with (first | (go_at_call 33; refine (impl_size_is _ _ _ _).mono ?_; rintro e w' ⟨rfl, rfl⟩) | (go_at_call 20; refine (impl_in_is _ _ _ _ _ hd).mono ?_; rintro e w' ⟨rfl, rfl⟩))
    go_ret
    exact ⟨ret_bI (E.out.symm.trans R.out), below_alloc (Below.refl _ _) _⟩
  by_cases h2 : 8 < s0_0.length
  · have hd : (decide ((1 : Int) ≤ (s0_0.length : Int)) && decide ((s0_0.length : Int) ≤ 8)) = false := by simp; omega
    have E := Lib.hid (okB_head (s := s0_0) (m := s0_1) (by unfold headB; simp; omega))
    go_enter Try.func19, Try.ntmps19
    go_wp2_with (first | (go_at_call 33; refine (impl_size_is _ _ _ _).mono ?_; rintro e w' ⟨rfl, rfl⟩) | (go_at_call 20; refine (impl_in_is _ _ _ _ _ hd).mono ?_; rintro e w' ⟨rfl, rfl⟩))
    go_ret
    exact ⟨ret_bI (E.out.symm.trans R.out), below_alloc (Below.refl _ _) _⟩
  have hd : (decide ((1 : Int) ≤ (s0_0.length : Int)) && decide ((s0_0.length : Int) ≤ 8)) = true := by simp; omega
  by_cases h3 : 8 < s0_1.length
  · have h3d : decide ((8 : Int) < (s0_1.length : Int)) = true := decide_eq_true (by omega)
    have E := Lib.hid (okB_head (s := s0_0) (m := s0_1) (by unfold headB; simp; omega))
    go_enter Try.func19, Try.ntmps19
    go_wp2_with (first | (go_at_call 33; refine (impl_size_is _ _ _ _).mono ?_; rintro e w' ⟨rfl, rfl⟩) | (go_at_call 20; refine (impl_in_is _ _ _ _ _ hd).mono ?_; rintro e w' ⟨rfl, rfl⟩))
    go_ret
    exact ⟨ret_bI (E.out.symm.trans R.out), below_alloc (Below.refl _ _) _⟩
  have h3d : decide ((8 : Int) < (s0_1.length : Int)) = false := decide_eq_false (by omega)
  have h1i : (1 : Int) ≤ (s0_0.length : Int) := by omega
  have h2i : (s0_0.length : Int) ≤ 8 := by omega
  obtain ⟨ad, rfl, hx0, hx1⟩ := at_T77 HR0.out ((s0_0.length : Int) - 1) (by omega) (by omega)
  rw [show ((s0_0.length : Int) - 1).toNat = s0_0.length - 1 by omega] at hx0 hx1
  by_cases h4 : (rd_T77 s0_0 ((s0_0.length - 1 : Nat) : Int)).f1 = 1
  rotate_left
  · have h4b : ((rd_T77 s0_0 ((s0_0.length : Int) - 1)).f1 != 1) = true := by rw [show (s0_0.length : Int) - 1 = ((s0_0.length - 1 : Nat) : Int) by omega]; simpa using h4
    have E := Lib.hid (okB_head (s := s0_0) (m := s0_1) (by unfold headB; simp [h4]))
    replace hx0 := pw_cell_below (below_alloc (Below.refl w.heap.size w) (.cells #[.slice (some ad) s0_0.length c0_0, .slice A0_1 s0_1.length c0_1] 31)) hx0
    replace hx1 := pw_cell_below (below_alloc (Below.refl w.heap.size w) (.cells #[.slice (some ad) s0_0.length c0_0, .slice A0_1 s0_1.length c0_1] 31)) hx1
    clear h4
    go_enter Try.func19, Try.ntmps19
    go_wp2_with (first | (go_at_call 33; refine (impl_size_is _ _ _ _).mono ?_; rintro e w' ⟨rfl, rfl⟩) | (go_at_call 20; refine (impl_in_is _ _ _ _ _ hd).mono ?_; rintro e w' ⟨rfl, rfl⟩))
    go_ret
    exact ⟨ret_bI (E.out.symm.trans R.out), below_alloc (Below.refl _ _) _⟩
  have h4b : ((rd_T77 s0_0 ((s0_0.length : Int) - 1)).f1 != 1) = false := by rw [show (s0_0.length : Int) - 1 = ((s0_0.length - 1 : Nat) : Int) by omega]; simpa using h4
  have HH := Lib.hid (show headB s0_0 s0_1 = true by unfold headB; simp [h4]; omega)
  replace hx0 := pw_cell_below (below_alloc (Below.refl w.heap.size w) (.cells #[.slice (some ad) s0_0.length c0_0, .slice A0_1 s0_1.length c0_1] 31)) hx0
  replace hx1 := pw_cell_below (below_alloc (Below.refl w.heap.size w) (.cells #[.slice (some ad) s0_0.length c0_0, .slice A0_1 s0_1.length c0_1] 31)) hx1
  clear h4
  have HB1 := Lib.hid (below_alloc (Below.refl w.heap.size w) (.cells #[.slice (some ad) s0_0.length c0_0, .slice A0_1 s0_1.length c0_1] 31))
  have HBK := Lib.hid (heap_alloc_new w (.cells #[.slice (some ad) s0_0.length c0_0, .slice A0_1 s0_1.length c0_1] 31))
  have HZ := Lib.hid (show (w.alloc (.cells #[.slice (some ad) s0_0.length c0_0, .slice A0_1 s0_1.length c0_1] 31)).heap.size = w.heap.size + 1 by simp)
  go_enter Try.func19, Try.ntmps19
  go_wp2_with (first | (go_at_call 33; refine (impl_size_is _ _ _ _).mono ?_; rintro e w' ⟨rfl, rfl⟩) | (go_at_call 20; refine (impl_in_is _ _ _ _ _ hd).mono ?_; rintro e w' ⟨rfl, rfl⟩))
  go_loopw [36] (fun i wr => ∃ k : Nat, k ≤ s0_0.length ∧ i = .int .i64 k ∧ RowKit.Hid ((List.range k).all (sgB s0_0) = true) ∧ RowKit.Hid (Below (w.alloc (.cells #[.slice (some ad) s0_0.length c0_0, .slice A0_1 s0_1.length c0_1] 31)).heap.size (w.alloc (.cells #[.slice (some ad) s0_0.length c0_0, .slice A0_1 s0_1.length c0_1] 31)) wr)) (fun i _ => s0_0.length - (intOf i).toNat)
  case atStart => exact ⟨0, Nat.zero_le _, rfl, Lib.hid rfl, Lib.hid (Below.refl _ _)⟩
  case round =>
    obtain ⟨k, hk, rfl, HA, HW⟩ := hrel
    clear hx0 hx1 h4b
    have HW0 := Lib.hid (below_step HB1.out HW.out)
    have HBW := Lib.hid ((HW.out.block w.heap.size (by rw [HZ.out]; omega)).trans HBK.out)
    have hd0 : wr.cell? ⟨w.heap.size, 0, none⟩ = some (.slice (some ad) s0_0.length c0_0) := (blk_cell HBW.out 0).trans rfl
    have hd1 : wr.cell? ⟨w.heap.size, 1, none⟩ = some (.slice A0_1 s0_1.length c0_1) := (blk_cell HBW.out 1).trans rfl
    by_cases hlt : k < s0_0.length
    · have hlt2 : (k : Int) < (s0_0.length : Int) := by omega
      obtain ⟨ad2, ea, hx, hy⟩ := at_T77 (Kd.C_below HR0.out HW0.out) (k : Nat) (by omega) (by omega)
      cases ea
      simp only [Int.toNat_natCast] at hx hy
      have hfit := HF.out _ (List.getElem_mem hlt)
      rw [← rdSG_get _ _ hlt] at hfit
      obtain ⟨hfit0, hfit1⟩ := hfit
      have hkc : k ≤ c0_0 := by have := HC0.out; omega
      have HB2 := Lib.hid (below_alloc (Below.refl wr.heap.size wr) (.cells #[.int .u8 (rd_T77 s0_0 (k : Int)).f0, .int .i16 (rd_T77 s0_0 (k : Int)).f1] 77))
      have HX4 := Lib.hid (heap_alloc_new wr (.cells #[.int .u8 (rd_T77 s0_0 (k : Int)).f0, .int .i16 (rd_T77 s0_0 (k : Int)).f1] 77))
      have hd4 : (wr.alloc (.cells #[.int .u8 (rd_T77 s0_0 (k : Int)).f0, .int .i16 (rd_T77 s0_0 (k : Int)).f1] 77)).cell? ⟨w.heap.size, 0, none⟩ = some (.slice (some ad) s0_0.length c0_0) := pw_cell_below HB2.out hd0
      have HLT := Lib.hid (show w.heap.size < wr.heap.size by have := HW.out.size; rw [HZ.out] at this; omega)
      have HCF := Lib.hid (show Calls Try.prog 34 #[.slice (some ad) k c0_0, .func (.func 35) #[] #[.pointer (some ⟨wr.heap.size, 0, none⟩)]] (wr.alloc (.cells #[.int .u8 (rd_T77 s0_0 (k : Int)).f0, .int .i16 (rd_T77 s0_0 (k : Int)).f1] 77)) fun e w' => e = .returned (.bool (dupB s0_0 k)) ∧ Below (wr.alloc (.cells #[.int .u8 (rd_T77 s0_0 (k : Int)).f0, .int .i16 (rd_T77 s0_0 (k : Int)).f1] 77)).heap.size (wr.alloc (.cells #[.int .u8 (rd_T77 s0_0 (k : Int)).f0, .int .i16 (rd_T77 s0_0 (k : Int)).f1] 77)) w' from by
        have h0 := contains_func_sign 35 #[.pointer (some ⟨wr.heap.size, 0, none⟩)] (fun y => decide (y.f0 = (rd_T77 s0_0 (k : Int)).f0)) (s0_0.take k) (some ad) c0_0 (wr.alloc (.cells #[.int .u8 (rd_T77 s0_0 (k : Int)).f0, .int .i16 (rd_T77 s0_0 (k : Int)).f1] 77)) enters55 (Kd.C_take (Kd.C_below HR0.out (below_step HW0.out HB2.out)) (by omega))
          (fun x _ W hW => (impl_ValidSystem_1.calls x (rd_T77 s0_0 (k : Int)) wr.heap.size W ((hW.cell (p := ⟨wr.heap.size, 0, none⟩) (by simp)).trans ((blk_cell HX4.out 0).trans rfl))).mono fun _ _ h => ⟨h.1, below_step hW h.2⟩)
        rw [List.length_take_of_le (by omega)] at h0
        exact h0)
      by_cases c1 : letB (rd_T77 s0_0 (k : Int)).f0 = true
      rotate_left
      · have L := Lib.hid (show letB (rd_T77 s0_0 (k : Int)).f0 = false by simpa using c1)
        have E := Lib.hid (okB_sg (m := s0_1) k hlt (by unfold sgB; rw [L.out]; simp))
        clear c1
        go_wp2_with (first | (go_at_call 34; refine HCF.out.mono ?_; rintro e w5 ⟨rfl, hb5⟩; have HW5 := Lib.hid (below_step (below_step HW0.out HB2.out) hb5); have HV5 := Lib.hid (below_step (below_step (w := (w.alloc (.cells #[.slice (some ad) s0_0.length c0_0, .slice A0_1 s0_1.length c0_1] 31))) HW.out HB2.out) hb5); have he0 : w5.cell? ⟨w.heap.size, 0, none⟩ = some (.slice (some ad) s0_0.length c0_0) := pw_cell_below (below_step HB2.out hb5) hd0; have hf0 : w5.cell? ⟨wr.heap.size, 0, none⟩ = some (.int .u8 (rd_T77 s0_0 (k : Int)).f0) := pw_cell_below hb5 ((blk_cell HX4.out 0).trans rfl); have hf1 : w5.cell? ⟨wr.heap.size, 1, none⟩ = some (.int .i16 (rd_T77 s0_0 (k : Int)).f1) := pw_cell_below hb5 ((blk_cell HX4.out 1).trans rfl); clear hb5))
        go_quiet ((first | (go_at_call 36; exact Calls.quiet_of_same (impl_letter_q _ _ _ L.out)) | (go_at_call 20; exact Calls.quiet_of_same (impl_in_q _ _ _ _ _ G.out))))
        go_wp2
        go_ret
        exact ⟨ret_bI (E.out.symm.trans R.out), pw_below_drewN HW5.out _⟩
      have L := Lib.hid c1
      clear c1
      cases hdup : dupB s0_0 k with
      | true =>
        have E := Lib.hid (okB_sg (m := s0_1) k hlt (by unfold sgB; rw [hdup]; simp))
        rw [hdup] at HCF
        clear hdup
        go_wp2_with (first | (go_at_call 34; refine HCF.out.mono ?_; rintro e w5 ⟨rfl, hb5⟩; have HW5 := Lib.hid (below_step (below_step HW0.out HB2.out) hb5); have HV5 := Lib.hid (below_step (below_step (w := (w.alloc (.cells #[.slice (some ad) s0_0.length c0_0, .slice A0_1 s0_1.length c0_1] 31))) HW.out HB2.out) hb5); have he0 : w5.cell? ⟨w.heap.size, 0, none⟩ = some (.slice (some ad) s0_0.length c0_0) := pw_cell_below (below_step HB2.out hb5) hd0; have hf0 : w5.cell? ⟨wr.heap.size, 0, none⟩ = some (.int .u8 (rd_T77 s0_0 (k : Int)).f0) := pw_cell_below hb5 ((blk_cell HX4.out 0).trans rfl); have hf1 : w5.cell? ⟨wr.heap.size, 1, none⟩ = some (.int .i16 (rd_T77 s0_0 (k : Int)).f1) := pw_cell_below hb5 ((blk_cell HX4.out 1).trans rfl); clear hb5))
        go_quiet ((first | (go_at_call 36; exact Calls.quiet_of_same (impl_letter_q _ _ _ L.out)) | (go_at_call 20; exact Calls.quiet_of_same (impl_in_q _ _ _ _ _ G.out))))
        go_wp2
        go_ret
        exact ⟨ret_bI (E.out.symm.trans R.out), pw_below_drewN HW5.out _⟩
      | false =>
      rw [hdup] at HCF
      have DD := Lib.hid hdup
      clear hdup
      by_cases c2 : rngB (rd_T77 s0_0 (k : Int)).f1 = true
      rotate_left
      · have G := Lib.hid (show (decide ((1 : Int) ≤ (rd_T77 s0_0 (k : Int)).f1) && decide ((rd_T77 s0_0 (k : Int)).f1 ≤ 5000)) = false by simpa [rngB] using c2)
        have E := Lib.hid (okB_sg (m := s0_1) k hlt (by unfold sgB; rw [show rngB (rd_T77 s0_0 (k : Int)).f1 = false from G.out]; simp))
        clear c2
        go_wp2_with (first | (go_at_call 34; refine HCF.out.mono ?_; rintro e w5 ⟨rfl, hb5⟩; have HW5 := Lib.hid (below_step (below_step HW0.out HB2.out) hb5); have HV5 := Lib.hid (below_step (below_step (w := (w.alloc (.cells #[.slice (some ad) s0_0.length c0_0, .slice A0_1 s0_1.length c0_1] 31))) HW.out HB2.out) hb5); have he0 : w5.cell? ⟨w.heap.size, 0, none⟩ = some (.slice (some ad) s0_0.length c0_0) := pw_cell_below (below_step HB2.out hb5) hd0; have hf0 : w5.cell? ⟨wr.heap.size, 0, none⟩ = some (.int .u8 (rd_T77 s0_0 (k : Int)).f0) := pw_cell_below hb5 ((blk_cell HX4.out 0).trans rfl); have hf1 : w5.cell? ⟨wr.heap.size, 1, none⟩ = some (.int .i16 (rd_T77 s0_0 (k : Int)).f1) := pw_cell_below hb5 ((blk_cell HX4.out 1).trans rfl); clear hb5))
        go_quiet ((first | (go_at_call 36; exact Calls.quiet_of_same (impl_letter_q _ _ _ L.out)) | (go_at_call 20; exact Calls.quiet_of_same (impl_in_q _ _ _ _ _ G.out))))
        go_wp2
        go_ret
        exact ⟨ret_bI (E.out.symm.trans R.out), pw_below_drewN HW5.out _⟩
      have G := Lib.hid (show (decide ((1 : Int) ≤ (rd_T77 s0_0 (k : Int)).f1) && decide ((rd_T77 s0_0 (k : Int)).f1 ≤ 5000)) = true from c2)
      clear c2
      have hcase : k = 0 ∨ (0 < k ∧ (rd_T77 s0_0 (k : Int)).f1 < (rd_T77 s0_0 ((k - 1 : Nat) : Int)).f1) ∨ (0 < k ∧ ¬ (rd_T77 s0_0 (k : Int)).f1 < (rd_T77 s0_0 ((k - 1 : Nat) : Int)).f1) := by omega
      rcases hcase with hz | ⟨hz, c3⟩ | ⟨hz, c3⟩
      rotate_left
      rotate_left
      · have E := Lib.hid (okB_sg (m := s0_1) k hlt (by unfold sgB; rw [decide_eq_false c3, decide_eq_false (show ¬ k = 0 by omega)]; simp))
        have hz1 : decide ((0 : Int) < (k : Int)) = true := decide_eq_true (by omega)
        have hz2 : decide (0 < k) = true := decide_eq_true hz
        obtain ⟨ad3, ea, hp, hq⟩ := at_T77 (Kd.C_below HR0.out HW0.out) ((k - 1 : Nat) : Int) (by omega) (by omega)
        cases ea
        simp only [Int.toNat_natCast] at hp hq
        have HQ := Lib.hid hq
        clear hp hq
        have hge : decide ((rd_T77 s0_0 ((k - 1 : Nat) : Int)).f1 ≤ (rd_T77 s0_0 (k : Int)).f1) = true := decide_eq_true (by omega)
        have e1 : (k : Int) - 1 = ((k - 1 : Nat) : Int) := by omega
        have v1 : IntKind.i64.wrap ((k : Int) - 1) = ((k - 1 : Nat) : Int) := by rw [← e1]; exact IntWalk.i64_in _ (by omega)
        have v2 : ((k - 1 : Nat) : Int) < (s0_0.length : Int) := by omega
        clear c3 e1
        go_wp2_with (first | (go_at_call 34; refine HCF.out.mono ?_; rintro e w5 ⟨rfl, hb5⟩; have HW5 := Lib.hid (below_step (below_step HW0.out HB2.out) hb5); have HV5 := Lib.hid (below_step (below_step (w := (w.alloc (.cells #[.slice (some ad) s0_0.length c0_0, .slice A0_1 s0_1.length c0_1] 31))) HW.out HB2.out) hb5); have he0 : w5.cell? ⟨w.heap.size, 0, none⟩ = some (.slice (some ad) s0_0.length c0_0) := pw_cell_below (below_step HB2.out hb5) hd0; have hf0 : w5.cell? ⟨wr.heap.size, 0, none⟩ = some (.int .u8 (rd_T77 s0_0 (k : Int)).f0) := pw_cell_below hb5 ((blk_cell HX4.out 0).trans rfl); have hf1 : w5.cell? ⟨wr.heap.size, 1, none⟩ = some (.int .i16 (rd_T77 s0_0 (k : Int)).f1) := pw_cell_below hb5 ((blk_cell HX4.out 1).trans rfl); have hq5 := pw_cell_below (below_step HB2.out hb5) HQ.out; clear hb5))
        go_quiet ((first | (go_at_call 36; exact Calls.quiet_of_same (impl_letter_q _ _ _ L.out)) | (go_at_call 20; exact Calls.quiet_of_same (impl_in_q _ _ _ _ _ G.out))))
        go_wp2
        go_ret
        exact ⟨ret_bI (E.out.symm.trans R.out), pw_below_drewN HW5.out _⟩
      focus
        have HS := Lib.hid (show sgB s0_0 k = true by unfold sgB; rw [L.out, show rngB (rd_T77 s0_0 (k : Int)).f1 = true from G.out, DD.out, decide_eq_true hz]; rfl)
        have hz1 : decide ((0 : Int) < (k : Int)) = false := decide_eq_false (by omega)
        have hz2 : decide (0 < k) = false := decide_eq_false (by omega)
        clear hz
        go_wp2_with (first | (go_at_call 34; refine HCF.out.mono ?_; rintro e w5 ⟨rfl, hb5⟩; have HW5 := Lib.hid (below_step (below_step HW0.out HB2.out) hb5); have HV5 := Lib.hid (below_step (below_step (w := (w.alloc (.cells #[.slice (some ad) s0_0.length c0_0, .slice A0_1 s0_1.length c0_1] 31))) HW.out HB2.out) hb5); have he0 : w5.cell? ⟨w.heap.size, 0, none⟩ = some (.slice (some ad) s0_0.length c0_0) := pw_cell_below (below_step HB2.out hb5) hd0; have hf0 : w5.cell? ⟨wr.heap.size, 0, none⟩ = some (.int .u8 (rd_T77 s0_0 (k : Int)).f0) := pw_cell_below hb5 ((blk_cell HX4.out 0).trans rfl); have hf1 : w5.cell? ⟨wr.heap.size, 1, none⟩ = some (.int .i16 (rd_T77 s0_0 (k : Int)).f1) := pw_cell_below hb5 ((blk_cell HX4.out 1).trans rfl); clear hb5))
        go_quiet ((first | (go_at_call 36; exact Calls.quiet_of_same (impl_letter_q _ _ _ L.out)) | (go_at_call 20; exact Calls.quiet_of_same (impl_in_q _ _ _ _ _ G.out))))
        go_wp2
      rotate_left
      focus
        have HS := Lib.hid (show sgB s0_0 k = true by unfold sgB; rw [L.out, show rngB (rd_T77 s0_0 (k : Int)).f1 = true from G.out, DD.out, decide_eq_true c3]; simp)
        have hz1 : decide ((0 : Int) < (k : Int)) = true := decide_eq_true (by omega)
        have hz2 : decide (0 < k) = true := decide_eq_true hz
        obtain ⟨ad3, ea, hp, hq⟩ := at_T77 (Kd.C_below HR0.out HW0.out) ((k - 1 : Nat) : Int) (by omega) (by omega)
        cases ea
        simp only [Int.toNat_natCast] at hp hq
        have HQ := Lib.hid hq
        clear hp hq
        have hge : decide ((rd_T77 s0_0 ((k - 1 : Nat) : Int)).f1 ≤ (rd_T77 s0_0 (k : Int)).f1) = false := decide_eq_false (by omega)
        have e1 : (k : Int) - 1 = ((k - 1 : Nat) : Int) := by omega
        have v1 : IntKind.i64.wrap ((k : Int) - 1) = ((k - 1 : Nat) : Int) := by rw [← e1]; exact IntWalk.i64_in _ (by omega)
        have v2 : ((k - 1 : Nat) : Int) < (s0_0.length : Int) := by omega
        clear c3 e1
        go_wp2_with (first | (go_at_call 34; refine HCF.out.mono ?_; rintro e w5 ⟨rfl, hb5⟩; have HW5 := Lib.hid (below_step (below_step HW0.out HB2.out) hb5); have HV5 := Lib.hid (below_step (below_step (w := (w.alloc (.cells #[.slice (some ad) s0_0.length c0_0, .slice A0_1 s0_1.length c0_1] 31))) HW.out HB2.out) hb5); have he0 : w5.cell? ⟨w.heap.size, 0, none⟩ = some (.slice (some ad) s0_0.length c0_0) := pw_cell_below (below_step HB2.out hb5) hd0; have hf0 : w5.cell? ⟨wr.heap.size, 0, none⟩ = some (.int .u8 (rd_T77 s0_0 (k : Int)).f0) := pw_cell_below hb5 ((blk_cell HX4.out 0).trans rfl); have hf1 : w5.cell? ⟨wr.heap.size, 1, none⟩ = some (.int .i16 (rd_T77 s0_0 (k : Int)).f1) := pw_cell_below hb5 ((blk_cell HX4.out 1).trans rfl); have hq5 := pw_cell_below (below_step HB2.out hb5) HQ.out; clear hb5))
        go_quiet ((first | (go_at_call 36; exact Calls.quiet_of_same (impl_letter_q _ _ _ L.out)) | (go_at_call 20; exact Calls.quiet_of_same (impl_in_q _ _ _ _ _ G.out))))
        clear hge v1 v2 hz hz1 hz2
        go_wp2
      all_goals
        go_roundw
        case measure => simp only [intOf]; omega
        case rel => exact ⟨k + 1, by omega, by go_num, Lib.hid (all_step HA.out HS.out), Lib.hid (pw_below_drewN HV5.out _)⟩
    · have hlt2 : ¬ (k : Int) < (s0_0.length : Int) := by omega
      have HALL := Lib.hid (show (List.range s0_0.length).all (sgB s0_0) = true by have := HA.out; rw [show k = s0_0.length by omega] at this; exact this)
      go_wp2
      go_loopw [81] (fun i wr => ∃ j : Nat, j ≤ s0_1.length ∧ i = .int .i64 j ∧ RowKit.Hid ((List.range j).all (mpB s0_0 s0_1) = true) ∧ RowKit.Hid (Below (w.alloc (.cells #[.slice (some ad) s0_0.length c0_0, .slice A0_1 s0_1.length c0_1] 31)).heap.size (w.alloc (.cells #[.slice (some ad) s0_0.length c0_0, .slice A0_1 s0_1.length c0_1] 31)) wr)) (fun i _ => s0_1.length - (intOf i).toNat)
      case atStart => exact ⟨0, Nat.zero_le _, rfl, Lib.hid rfl, HW⟩
      case round =>
        obtain ⟨j, hj, rfl, HM, HV⟩ := hrel
        clear hd0 hd1
        have HV0 := Lib.hid (below_step HB1.out HV.out)
        have HBV := Lib.hid ((HV.out.block w.heap.size (by rw [HZ.out]; omega)).trans HBK.out)
        have hd0 : wr.cell? ⟨w.heap.size, 0, none⟩ = some (.slice (some ad) s0_0.length c0_0) := (blk_cell HBV.out 0).trans rfl
        have hd1 : wr.cell? ⟨w.heap.size, 1, none⟩ = some (.slice A0_1 s0_1.length c0_1) := (blk_cell HBV.out 1).trans rfl
        by_cases hlj : j < s0_1.length
        · have hlj2 : (j : Int) < (s0_1.length : Int) := by omega
          obtain ⟨ad3, ea, hp, hq⟩ := at_T79 (Kd.C_below HR1.out HV0.out) (j : Nat) (by omega) (by omega)
          cases ea
          simp only [Int.toNat_natCast] at hp hq
          have HB2 := Lib.hid (below_alloc (Below.refl wr.heap.size wr) (.cells #[.int .u8 (rd_T79 s0_1 (j : Int)).f0, .int .u8 (rd_T79 s0_1 (j : Int)).f1] 79))
          have HX7 := Lib.hid (heap_alloc_new wr (.cells #[.int .u8 (rd_T79 s0_1 (j : Int)).f0, .int .u8 (rd_T79 s0_1 (j : Int)).f1] 79))
          have HW2 := Lib.hid (below_step (w := (w.alloc (.cells #[.slice (some ad) s0_0.length c0_0, .slice (some ad3) s0_1.length c0_1] 31))) HV.out HB2.out)
          have HVC := Lib.hid (fun (c : Int) (W : World) (hW : Below (w.alloc (.cells #[.slice (some ad) s0_0.length c0_0, .slice (some ad3) s0_1.length c0_1] 31)).heap.size (w.alloc (.cells #[.slice (some ad) s0_0.length c0_0, .slice (some ad3) s0_1.length c0_1] 31)) W) => impl_System_value.calls (s0_0.length + 1) (some ad) c0_0 s0_0 (some ad3) c0_1 s0_1 c (valB s0_0 c) W (Kd.C_below HR0.out (below_step HB1.out hW)) HC0.out (Kd.C_below HR1.out (below_step HB1.out hW)) HC1.out (impl_System_value.val s0_0 s0_1 c hls HF.out (s0_0.length + 1) (by omega)))
          have hd4 : (wr.alloc (.cells #[.int .u8 (rd_T79 s0_1 (j : Int)).f0, .int .u8 (rd_T79 s0_1 (j : Int)).f1] 79)).cell? ⟨w.heap.size, 0, none⟩ = some (.slice (some ad) s0_0.length c0_0) := pw_cell_below HB2.out hd0
          have hd5 : (wr.alloc (.cells #[.int .u8 (rd_T79 s0_1 (j : Int)).f0, .int .u8 (rd_T79 s0_1 (j : Int)).f1] 79)).cell? ⟨w.heap.size, 1, none⟩ = some (.slice (some ad3) s0_1.length c0_1) := pw_cell_below HB2.out hd1
          have hd6 : (wr.alloc (.cells #[.int .u8 (rd_T79 s0_1 (j : Int)).f0, .int .u8 (rd_T79 s0_1 (j : Int)).f1] 79)).cell? ⟨wr.heap.size, 0, none⟩ = some (.int .u8 (rd_T79 s0_1 (j : Int)).f0) := (blk_cell HX7.out 0).trans rfl
          have hd7 : (wr.alloc (.cells #[.int .u8 (rd_T79 s0_1 (j : Int)).f0, .int .u8 (rd_T79 s0_1 (j : Int)).f1] 79)).cell? ⟨wr.heap.size, 1, none⟩ = some (.int .u8 (rd_T79 s0_1 (j : Int)).f1) := (blk_cell HX7.out 1).trans rfl
          go_wp2
          go_region_held3 (fun w' => w'.cell? ⟨w.heap.size, 0, none⟩ = some (.slice (some ad) s0_0.length c0_0) ∧ w'.cell? ⟨w.heap.size, 1, none⟩ = some (.slice (some ad3) s0_1.length c0_1) ∧ w'.cell? ⟨wr.heap.size, 0, none⟩ = some (.int .u8 (rd_T79 s0_1 (j : Int)).f0) ∧ w'.cell? ⟨wr.heap.size, 1, none⟩ = some (.int .u8 (rd_T79 s0_1 (j : Int)).f1) ∧ RowKit.Hid (Below (w.alloc (.cells #[.slice (some ad) s0_0.length c0_0, .slice (some ad3) s0_1.length c0_1] 31)).heap.size (w.alloc (.cells #[.slice (some ad) s0_0.length c0_0, .slice (some ad3) s0_1.length c0_1] 31)) w'))
            (first | exact ⟨hd4, hd5, hd6, hd7, Lib.hid (below_drew1 HW2.out)⟩ | exact keep5 (by assumption) hb)
            ((first | (go_at_call 37; refine (HVC.out _ _ (heldB (by assumption))).mono ?_; rintro e w' ⟨rfl, hb⟩)))
          all_goals
            have hS : w'.cell? ⟨w.heap.size, 0, none⟩ = some (.slice (some ad) s0_0.length c0_0) ∧ w'.cell? ⟨w.heap.size, 1, none⟩ = some (.slice (some ad3) s0_1.length c0_1) ∧ w'.cell? ⟨wr.heap.size, 0, none⟩ = some (.int .u8 (rd_T79 s0_1 (j : Int)).f0) ∧ w'.cell? ⟨wr.heap.size, 1, none⟩ = some (.int .u8 (rd_T79 s0_1 (j : Int)).f1) ∧ RowKit.Hid (Below (w.alloc (.cells #[.slice (some ad) s0_0.length c0_0, .slice (some ad3) s0_1.length c0_1] 31)).heap.size (w.alloc (.cells #[.slice (some ad) s0_0.length c0_0, .slice (some ad3) s0_1.length c0_1] 31)) w') := by assumption
            have HW9 := Lib.hid hS.2.2.2.2.out
            have HV9 := Lib.hid (below_step HB1.out hS.2.2.2.2.out)
            clear hd0 hd1 hd4 hd5 hd6 hd7 hp hq
            by_cases ca : valB s0_0 (rd_T79 s0_1 (j : Int)).f0 = 0
            · have t1 : (valB s0_0 (rd_T79 s0_1 (j : Int)).f0 == 0) = true := beq_iff_eq.2 ca
              have E := Lib.hid (okB_mp (s := s0_0) j hlj (by unfold mpB; rw [ca]; simp))
              clear ca
              go_wp2
              go_quiet (fail)
              go_wp2
              go_ret
              exact ⟨ret_bI (E.out.symm.trans R.out), pw_below_drewN HV9.out _⟩
            have t1 : (valB s0_0 (rd_T79 s0_1 (j : Int)).f0 == 0) = false := beq_eq_false_iff_ne.2 ca
            have CA := Lib.hid ca
            clear ca
            by_cases cb : valB s0_0 (rd_T79 s0_1 (j : Int)).f0 < valB s0_0 (rd_T79 s0_1 (j : Int)).f1
            rotate_left
            · have t2 : decide (valB s0_0 (rd_T79 s0_1 (j : Int)).f1 ≤ valB s0_0 (rd_T79 s0_1 (j : Int)).f0) = true := decide_eq_true (by omega)
              have E := Lib.hid (okB_mp (s := s0_0) j hlj (by unfold mpB; rw [decide_eq_false cb]; simp))
              clear cb
              go_wp2
              go_quiet (fail)
              go_wp2
              go_ret
              exact ⟨ret_bI (E.out.symm.trans R.out), pw_below_drewN HV9.out _⟩
            have t2 : decide (valB s0_0 (rd_T79 s0_1 (j : Int)).f1 ≤ valB s0_0 (rd_T79 s0_1 (j : Int)).f0) = false := decide_eq_false (by omega)
            have CB := Lib.hid cb
            clear cb
            by_cases hz : 0 < j
            rotate_left
            · have HM2 := Lib.hid (all_step HM.out (show mpB s0_0 s0_1 j = true by unfold mpB; rw [decide_eq_true CA.out, decide_eq_true CB.out, decide_eq_true (show j = 0 by omega)]; rfl))
              have hz1 : decide ((0 : Int) < (j : Int)) = false := decide_eq_false (by omega)
              have hz2 : decide (0 < j) = false := decide_eq_false hz
              clear hz
              go_wp2
              go_quiet (fail)
              go_wp2
              go_roundw
              case measure => simp only [intOf]; omega
              case rel => exact ⟨j + 1, by omega, by go_num, HM2, Lib.hid (pw_below_drewN HW9.out _)⟩
            have hz1 : decide ((0 : Int) < (j : Int)) = true := decide_eq_true (by omega)
            have hz2 : decide (0 < j) = true := decide_eq_true hz
            obtain ⟨ad5, ea, hp5, hq5⟩ := at_T79 (Kd.C_below HR1.out HV9.out) ((j - 1 : Nat) : Int) (by omega) (by omega)
            cases ea
            simp only [Int.toNat_natCast] at hp5 hq5
            have e1 : (j : Int) - 1 = ((j - 1 : Nat) : Int) := by omega
            have v1 : IntKind.i64.wrap ((j : Int) - 1) = ((j - 1 : Nat) : Int) := by rw [← e1]; exact IntWalk.i64_in _ (by omega)
            have v2 : ((j - 1 : Nat) : Int) < (s0_1.length : Int) := by omega
            obtain ⟨rc, hrc, hrd⟩ := comparePair_val (rd_T79 s0_1 ((j - 1 : Nat) : Int)) (rd_T79 s0_1 (j : Int))
            have HCP := Lib.hid (fun W => impl_comparePair.calls 3 (rd_T79 s0_1 ((j - 1 : Nat) : Int)).f0 (rd_T79 s0_1 ((j - 1 : Nat) : Int)).f1 (rd_T79 s0_1 (j : Int)).f0 (rd_T79 s0_1 (j : Int)).f1 rc W hrc)
            clear hrc e1
            obtain ⟨hS0, hS1, hS2, hS3, hS4⟩ := hS
            cases hah : aheadB (rd_T79 s0_1 ((j - 1 : Nat) : Int)) (rd_T79 s0_1 (j : Int)) with
            | false =>
              rw [hah] at hrd
              have hrd2 : decide (0 ≤ rc) = true := hrd
              have E := Lib.hid (okB_mp (s := s0_0) j hlj (by unfold mpB; rw [decide_eq_false (show ¬ j = 0 by omega), hah]; simp))
              clear hah hrd
              go_wp2
              go_region_held3 (fun w' => w'.cell? ⟨w.heap.size, 1, none⟩ = some (.slice (some ad3) s0_1.length c0_1) ∧ w'.cell? (ad3.add ((j - 1) * 2)) = some (.int .u8 (rd_T79 s0_1 ((j - 1 : Nat) : Int)).f0) ∧ w'.cell? ⟨(ad3.add ((j - 1) * 2)).block, (ad3.add ((j - 1) * 2)).off + 1, none⟩ = some (.int .u8 (rd_T79 s0_1 ((j - 1 : Nat) : Int)).f1) ∧ w'.cell? ⟨wr.heap.size, 0, none⟩ = some (.int .u8 (rd_T79 s0_1 (j : Int)).f0) ∧ w'.cell? ⟨wr.heap.size, 1, none⟩ = some (.int .u8 (rd_T79 s0_1 (j : Int)).f1) ∧ RowKit.Hid (Below (w.alloc (.cells #[.slice (some ad) s0_0.length c0_0, .slice (some ad3) s0_1.length c0_1] 31)).heap.size (w.alloc (.cells #[.slice (some ad) s0_0.length c0_0, .slice (some ad3) s0_1.length c0_1] 31)) w'))
                (first | exact ⟨hS1, hp5, hq5, hS2, hS3, Lib.hid (below_drew1 HW9.out)⟩ | exact keep6 (by assumption) hb)
                ((first | (go_at_call 38; refine (HCP.out _).mono ?_; rintro e w' ⟨rfl, hb⟩)))
              all_goals
                go_wp2
                go_ret
                exact ⟨ret_bI (E.out.symm.trans R.out), below_step HB1.out (heldB6 (by assumption))⟩
            | true =>
              rw [hah] at hrd
              have hrd2 : decide (0 ≤ rc) = false := hrd
              have HM2 := Lib.hid (all_step HM.out (show mpB s0_0 s0_1 j = true by unfold mpB; rw [decide_eq_true CA.out, decide_eq_true CB.out, hah]; simp))
              clear hah hrd
              go_wp2
              go_region_held3 (fun w' => w'.cell? ⟨w.heap.size, 1, none⟩ = some (.slice (some ad3) s0_1.length c0_1) ∧ w'.cell? (ad3.add ((j - 1) * 2)) = some (.int .u8 (rd_T79 s0_1 ((j - 1 : Nat) : Int)).f0) ∧ w'.cell? ⟨(ad3.add ((j - 1) * 2)).block, (ad3.add ((j - 1) * 2)).off + 1, none⟩ = some (.int .u8 (rd_T79 s0_1 ((j - 1 : Nat) : Int)).f1) ∧ w'.cell? ⟨wr.heap.size, 0, none⟩ = some (.int .u8 (rd_T79 s0_1 (j : Int)).f0) ∧ w'.cell? ⟨wr.heap.size, 1, none⟩ = some (.int .u8 (rd_T79 s0_1 (j : Int)).f1) ∧ RowKit.Hid (Below (w.alloc (.cells #[.slice (some ad) s0_0.length c0_0, .slice (some ad3) s0_1.length c0_1] 31)).heap.size (w.alloc (.cells #[.slice (some ad) s0_0.length c0_0, .slice (some ad3) s0_1.length c0_1] 31)) w'))
                (first | exact ⟨hS1, hp5, hq5, hS2, hS3, Lib.hid (below_drew1 HW9.out)⟩ | exact keep6 (by assumption) hb)
                ((first | (go_at_call 38; refine (HCP.out _).mono ?_; rintro e w' ⟨rfl, hb⟩)))
              all_goals
                go_wp2
                go_roundw
                case measure => simp only [intOf]; omega
                case rel => exact ⟨j + 1, by omega, by go_num, HM2, Lib.hid (heldB6 (by assumption))⟩
        · have hlj2 : ¬ (j : Int) < (s0_1.length : Int) := by omega
          have E := Lib.hid (okB_all HH.out HALL.out (show (List.range s0_1.length).all (mpB s0_0 s0_1) = true by have := HM.out; rw [show j = s0_1.length by omega] at this; exact this))
          go_wp2
          go_ret
          exact ⟨ret_bI (E.out.symm.trans R.out), HV0.out⟩
end Go.Proofs.Ytnacfljfalkonaa.Q
