/- impl.CountRight, by hand. -/
import Derived.Test.YtnacfljfalkonaaQhandCountF
import Derived.Test.YtnacfljfalkonaaQhandValid
import Derived.Carry
import Derived.Laws.EntriesVeiled
namespace Go.Proofs.Ytnacfljfalkonaa.Q
open Go.RowKit Go.Proofs.YtnacfljfalkonaaW.PrintWords Go.Proofs.YtnacfljfalkonaaW.PrintLast Go.Proofs.YtnacfljfalkonaaW.PrintMore
open Go.Proofs.Ytnacfljfalkonaa.Pure
set_option linter.unusedVariables false
set_option linter.unusedSimpArgs false

theorem sumF_none {L : List S46} (hL : OkL L) (m : List MP) (n l : Int) (hn : 1 ≤ n) (hl : 0 ≤ l) : sumF L (nx m L) n l (List.range' 0 L.length) 0 = cnt L (nx m L) l.toNat n L.length := by
  rw [← sumF_all hL (nx m L) n l hn hl L.length]
  congr 1
  rw [List.filter_eq_self.2]
  intro a _
  unfold nx
  rw [if_pos rfl]
theorem sumF_step (L : List S46) (g : Nat → Nat → Bool) (n l : Int) (k : Nat) : sumF L g n l (List.range' 0 (k + 1)) 0 = wrap64 (sumF L g n l (List.range' 0 k) 0 + Fv L g n l k) := by
  rw [List.range'_concat]
  unfold sumF
  rw [List.foldl_append]
  simp
theorem four_blocks (w : World) (a b c d : Obj) : ((((w.alloc a).alloc b).alloc c).alloc d).heap[w.heap.size]? = some a ∧ ((((w.alloc a).alloc b).alloc c).alloc d).heap[w.heap.size + 1]? = some b ∧ ((((w.alloc a).alloc b).alloc c).alloc d).heap[w.heap.size + 1 + 1]? = some c ∧ ((((w.alloc a).alloc b).alloc c).alloc d).heap[w.heap.size + 1 + 1 + 1]? = some d := by
  have sz : ∀ (W : World) (o : Obj), (W.alloc o).heap.size = W.heap.size + 1 := fun W o => by simp
  have h1 := heap_alloc_new w a
  have h2 := heap_alloc_new (w.alloc a) b
  have h3 := heap_alloc_new ((w.alloc a).alloc b) c
  have h4 := heap_alloc_new (((w.alloc a).alloc b).alloc c) d
  rw [sz] at h2
  rw [sz, sz] at h3
  rw [sz, sz, sz] at h4
  refine ⟨?_, ?_, ?_, h4⟩
  · rw [heap_alloc_old _ _ (by simp only [sz]; omega), heap_alloc_old _ _ (by simp only [sz]; omega), heap_alloc_old _ _ (by simp only [sz]; omega)]; exact h1
  · rw [heap_alloc_old _ _ (by simp only [sz]; omega), heap_alloc_old _ _ (by simp only [sz]; omega)]; exact h2
  · rw [heap_alloc_old _ _ (by simp only [sz]; omega)]; exact h3
set_option maxHeartbeats 8000000 in
set_option maxRecDepth 100000 in
theorem implCountC (A0 : Option Addr) (c0 : Nat) (s : List SG) (A1 : Option Addr) (c1 : Nat) (m : List MP) (n long : Int) (w : World) (hr0 : Kd.C k77 w A0 s.length s) (hc0 : s.length ≤ c0) (hr1 : Kd.C k79 w A1 m.length m) (hc1 : m.length ≤ c1) (hs : s.length ≤ 1048576) (hm : m.length ≤ 1048576) (hf : (s.all (fun x => decide (-32768 ≤ x.f1) && decide (x.f1 ≤ 32767))) = true) (r code : Int) (h : countR s m n long = (r, code)) :
    Calls Try.prog 11 #[.agg #[.slice A0 s.length c0, .slice A1 m.length c1], .int .i64 n, .int .i64 long] w fun e w' => e = .returned (.tuple #[.int .i64 r, .int .i64 code]) ∧ Below w.heap.size w w' := by
  have B0 := Lib.hid (below_alloc (Below.refl w.heap.size w) (.cells #[.slice A0 s.length c0, .slice A1 m.length c1] 31))
  have K0 := Lib.hid (heap_alloc_new w (.cells #[.slice A0 s.length c0, .slice A1 m.length c1] 31))
  have HV := Lib.hid (impl_ValidSystem.calls A0 c0 s A1 c1 m (okB s m) _ (Kd.C_below hr0 B0.out) hc0 (Kd.C_below hr1 B0.out) hc1 (by unfold impl_ValidSystem.f; rw [if_pos ⟨hs, hm, hf⟩]))
  have z0 := (blk_cell K0.out 0).trans (show (#[.slice A0 s.length c0, .slice A1 m.length c1] : Array Value)[0]? = some (.slice A0 s.length c0) from rfl)
  have z1 := (blk_cell K0.out 1).trans (show (#[.slice A0 s.length c0, .slice A1 m.length c1] : Array Value)[1]? = some (.slice A1 m.length c1) from rfl)
  unfold countR at h
  cases hok : okB s m with
  | false =>
    rw [hok, if_neg (by decide)] at h
    obtain ⟨rfl, rfl⟩ := Prod.mk.inj h
    rw [hok] at HV
    clear hr0 hr1 hok hf hs hm h
    go_enter Try.func11, Try.ntmps11
    go_wp2_with (first | (go_at_call 19; with_reducible refine HV.out.mono ?_; rintro e w1 ⟨rfl, hb⟩; have B1 := Lib.hid (below_step B0.out hb); have HB1 := Lib.hid hb; have y0 := bcell hb z0; have y1 := bcell hb z1; clear hb z0 z1))
    go_ret2
    exact ⟨rfl, B1.out⟩
  | true =>
  rw [hok, if_pos rfl] at h
  rw [hok] at HV
  cases hb1 : (decide (0 ≤ n) && decide (n ≤ 1000)) with
  | false =>
    rw [hb1, Bool.false_and, if_neg (by decide)] at h
    obtain ⟨rfl, rfl⟩ := Prod.mk.inj h
    have HN1 := Lib.hid hb1
    clear hr0 hr1 hok hf hs hm h hb1
    go_enter Try.func11, Try.ntmps11
    go_wp2_with (first | (go_at_call 19; with_reducible refine HV.out.mono ?_; rintro e w1 ⟨rfl, hb⟩; have B1 := Lib.hid (below_step B0.out hb); have HB1 := Lib.hid hb; have y0 := bcell hb z0; have y1 := bcell hb z1; clear hb z0 z1) | (go_at_call 20; with_reducible refine (impl_in_q n 0 1000 false _ HN1.out).mono ?_; rintro e w' ⟨rfl, rfl⟩))
    go_ret2
    exact ⟨rfl, B1.out⟩
  | true =>
  have HN1 := Lib.hid hb1
  cases hb2 : (decide (0 ≤ long) && decide (long ≤ 16)) with
  | false =>
    rw [hb1, hb2, Bool.true_and, if_neg (by decide)] at h
    obtain ⟨rfl, rfl⟩ := Prod.mk.inj h
    have HN2 := Lib.hid hb2
    clear hr0 hr1 hok hf hs hm h hb1 hb2
    go_enter Try.func11, Try.ntmps11
    go_wp2_with (first | (go_at_call 19; with_reducible refine HV.out.mono ?_; rintro e w1 ⟨rfl, hb⟩; have B1 := Lib.hid (below_step B0.out hb); have HB1 := Lib.hid hb; have y0 := bcell hb z0; have y1 := bcell hb z1; clear hb z0 z1) | (go_at_call 20; with_reducible refine (impl_in_q n 0 1000 true _ HN1.out).mono ?_; rintro e w' ⟨rfl, rfl⟩) | (go_at_call 20; with_reducible refine (impl_in_q long 0 16 false _ HN2.out).mono ?_; rintro e w' ⟨rfl, rfl⟩))
    go_ret2
    exact ⟨rfl, B1.out⟩
  | true =>
  have HN2 := Lib.hid hb2
  rw [hb1, hb2, Bool.true_and, if_pos rfl] at h
  simp only [Bool.and_eq_true, decide_eq_true_eq] at hb1 hb2
  have HL := Lib.hid (okL_pieces hok (fit_all hf))
  have HPF := Lib.hid (show impl_System_parts.f s m = some ((piecesQ s m).map cvP) by unfold impl_System_parts.f; rw [if_pos ⟨hs, hm, hf⟩, pieces_cv])
  obtain ⟨L, hL⟩ : ∃ L, L = piecesQ s m := ⟨_, rfl⟩
  rw [← hL] at HL HPF h
  obtain ⟨hr, hcode⟩ := Prod.mk.inj h
  subst hcode
  by_cases h0 : n = 0
  · subst h0
    rw [cnt_one HL.out] at hr
    subst hr
    clear hr0 hr1 hok hf hs hm h hb1 hb2 hL
    go_enter Try.func11, Try.ntmps11
    go_wp2_with (first | (go_at_call 19; with_reducible refine HV.out.mono ?_; rintro e w1 ⟨rfl, hb⟩; have B1 := Lib.hid (below_step B0.out hb); have HB1 := Lib.hid hb; have y0 := bcell hb z0; have y1 := bcell hb z1; clear hb z0 z1) | (go_at_call 20; with_reducible refine (impl_in_q 0 0 1000 true _ HN1.out).mono ?_; rintro e w' ⟨rfl, rfl⟩) | (go_at_call 20; with_reducible refine (impl_in_q long 0 16 true _ HN2.out).mono ?_; rintro e w' ⟨rfl, rfl⟩))
    go_ret2
    exact ⟨rfl, B1.out⟩
  have t0 : (n == 0) = false := beq_eq_false_iff_ne.2 h0
  have t1 : ¬ n = 0 := h0
  obtain ⟨kf, hkf⟩ := impl_builderOf.val HL.out s m hm HPF.out
  have HR0 := Lib.hid (Kd.C_below hr0 B0.out)
  have HR1 := Lib.hid (Kd.C_below hr1 B0.out)
  have HBF := Lib.hid hkf
  have HRES := Lib.hid hr
  have HN := Lib.hid (show 1 ≤ n ∧ n ≤ 1000 ∧ 0 ≤ long ∧ long ≤ 16 by omega)
  have hl16 : (L.length : Int) ≤ 16 := by have := HL.out.len; omega
  have hmm := @run_makeMap Try.prog
  clear hr0 hr1 hok hf hs hm h hb1 hb2 hL hkf hr h0
  go_enter Try.func11, Try.ntmps11
  go_upto_region 10 with (first
    | (go_at_call 19; with_reducible refine HV.out.mono ?_; rintro e w1 ⟨rfl, hb⟩; have B1 := Lib.hid (below_step B0.out hb); have HB1 := Lib.hid hb; have y0 := bcell hb z0; have y1 := bcell hb z1; clear hb z0 z1)
    | (go_at_call 20; with_reducible refine (impl_in_q n 0 1000 true _ HN1.out).mono ?_; rintro e w' ⟨rfl, rfl⟩)
    | (go_at_call 20; with_reducible refine (impl_in_q long 0 16 true _ HN2.out).mono ?_; rintro e w' ⟨rfl, rfl⟩)
    | (go_at_call 26
       with_reducible refine (impl_builderOf.calls kf A0 c0 s A1 c1 m (L.map cvP) (nextP m L) _ (Kd.C_below HR0.out HB1.out) hc0 (Kd.C_below HR1.out HB1.out) hc1 HBF.out).mono ?_
       rintro e wb ⟨v0, v1, rfl, hR, hS, hb⟩
       obtain ⟨Ap, cp, ev⟩ := Kd.R_slice hR
       rw [List.length_map] at ev
       obtain ⟨An, cn, ev2⟩ := Kd.R_slice (Kd.S_R hS)
       rw [nextP_len] at ev2
       subst ev
       subst ev2
       have HP := Lib.hid (show Kd.C k52 wb Ap L.length (L.map cvP) by have := (Kd.R_reads' hR).2.2; simpa using this)
       have HNX := Lib.hid (show Kd.C (Kd.slice 3 (Kd.int .i64)) wb An L.length (nextP m L) by have := (Kd.R_reads' (Kd.S_R hS)).2.2; rw [nextP_len] at this; exact this)
       have HB := Lib.hid (below_step B1.out hb)
       clear hR hS hb))
  obtain ⟨k0, k1, k2, k3⟩ := four_blocks wb (.cells #[.slice Ap L.length cp, .slice An L.length cn] 65) (.map #[] 0) (.cells #[.map (some (wb.heap.size + 1))] 67) (.cells #[.nilFunc] 68)
  have B4 := Lib.hid (below_alloc (below_alloc (below_alloc (below_alloc (Below.refl wb.heap.size wb) (.cells #[.slice Ap L.length cp, .slice An L.length cn] 65)) (.map #[] 0)) (.cells #[.map (some (wb.heap.size + 1))] 67)) (.cells #[.nilFunc] 68))
  obtain ⟨w4, hw4⟩ : ∃ w4, w4 = (((wb.alloc (.cells #[.slice Ap L.length cp, .slice An L.length cn] 65)).alloc (.map #[] 0)).alloc (.cells #[.map (some (wb.heap.size + 1))] 67)).alloc (.cells #[.nilFunc] 68) := ⟨_, rfl⟩
  rw [← hw4] at k0 k1 k2 k3 B4 ⊢
  have eC : w4.cell? ⟨wb.heap.size + 1 + 1 + 1, 0, none⟩ = some .nilFunc := (blk_cell k3 0).trans rfl
  have fC := blk_frozen k3 0
  obtain ⟨S, hS⟩ : ∃ S : Int → Int → Int → Int, ∀ a b c, S a b c = cnt L (nx m L) b.toNat a c.toNat := ⟨fun a b c => cnt L (nx m L) b.toNat a c.toNat, fun _ _ _ => rfl⟩
  have I5 := Lib.hid (show CB Ap L.length cp An L.length cn wb.heap.size (wb.heap.size + 1 + 1) (wb.heap.size + 1 + 1 + 1) (wb.heap.size + 1) S wb (w4.setCell ⟨wb.heap.size + 1 + 1 + 1, 0, none⟩ (.func (.func 27) #[] #[.pointer (some ⟨wb.heap.size, 0, none⟩), .pointer (some ⟨wb.heap.size + 1 + 1, 0, none⟩), .pointer (some ⟨wb.heap.size + 1 + 1 + 1, 0, none⟩)])) from
    ⟨blk_far (p := ⟨wb.heap.size + 1 + 1 + 1, 0, none⟩) k0 (by show wb.heap.size ≠ wb.heap.size + 1 + 1 + 1; omega) _, blk_far (p := ⟨wb.heap.size + 1 + 1 + 1, 0, none⟩) k2 (by show wb.heap.size + 1 + 1 ≠ wb.heap.size + 1 + 1 + 1; omega) _, blk_put k3 0 _ rfl,
     ⟨#[], 0, (Below.heap_setCell w4 ⟨wb.heap.size + 1 + 1 + 1, 0, none⟩ _ _ (by show wb.heap.size + 1 ≠ wb.heap.size + 1 + 1 + 1; omega)).trans k1, fun e he => by simp at he⟩, ⟨by omega, by omega, by omega⟩, by omega, below_set B4.out (by omega)⟩)
  have HS := Lib.hid hS
  have eg27 : ∀ args w, (callFunc 27 args).run Try.prog w = .ok (.enter 27 args) w := enters_of Try.func27 (by kernel_rfl) rfl
  clear hw4 k0 k1 k2 k3 hS
  have eP : (w4.setCell ⟨wb.heap.size + 1 + 1 + 1, 0, none⟩ (.func (.func 27) #[] #[.pointer (some ⟨wb.heap.size, 0, none⟩), .pointer (some ⟨wb.heap.size + 1 + 1, 0, none⟩), .pointer (some ⟨wb.heap.size + 1 + 1 + 1, 0, none⟩)])).cell? ⟨wb.heap.size, 0, none⟩ = some (.slice Ap L.length cp) := (blk_cell I5.out.kB 0).trans rfl
  go_wp2
  go_loopw [11, 36] (fun v11 i X => ∃ k : Nat, k ≤ L.length ∧ i = .int .i64 k ∧ v11 = .int .i64 (sumF L (nx m L) n long (List.range' 0 k) 0) ∧ RowKit.Hid (CB Ap L.length cp An L.length cn wb.heap.size (wb.heap.size + 1 + 1) (wb.heap.size + 1 + 1 + 1) (wb.heap.size + 1) S wb X)) (fun _ i _ => L.length - (intOf i).toNat)
  case atStart => exact ⟨0, Nat.zero_le _, rfl, rfl, I5⟩
  case round =>
    clear I5 eP eC fC
    obtain ⟨k, hk, rfl, rfl, HI⟩ := hrel
    by_cases hk2 : k < L.length
    · have hk3 : (k : Int) < (L.length : Int) := by omega
      have eF : wr.cell? ⟨wb.heap.size + 1 + 1 + 1, 0, none⟩ = some (.func (.func 27) #[] #[.pointer (some ⟨wb.heap.size, 0, none⟩), .pointer (some ⟨wb.heap.size + 1 + 1, 0, none⟩), .pointer (some ⟨wb.heap.size + 1 + 1 + 1, 0, none⟩)]) := (blk_cell HI.out.kF 0).trans rfl
      have HCALL := Lib.hid (findC HL.out m Ap cp An cn wb.heap.size (wb.heap.size + 1 + 1) (wb.heap.size + 1 + 1 + 1) (wb.heap.size + 1) S HS.out wb HP.out HNX.out (n.toNat + 1) n long k wr (by omega) HN.out.1 HN.out.2.1 HN.out.2.2.1 HN.out.2.2.2 hk2 HI.out)
      have HST := Lib.hid (sumF_step L (nx m L) n long k)
      clear HI
      go_wp2_with (first
        | (go_at_fn 27
           with_reducible refine HCALL.out.mono ?_
           rintro e w2 ⟨rfl, hI2⟩
           have I2 := Lib.hid hI2
           clear hI2 eF HCALL))
      go_roundw
      case measure => simp only [intOf]; omega
      case rel => exact ⟨k + 1, by omega, by go_num, by rw [HST.out], I2⟩
    · have hk3 : ¬ (k : Int) < (L.length : Int) := by omega
      obtain rfl : k = L.length := by omega
      have HE := Lib.hid ((sumF_none HL.out m n long HN.out.1 HN.out.2.2.1).trans HRES.out)
      rw [HE.out]
      go_wp2
      go_ret2
      exact ⟨rfl, below_step HB.out HI.out.b⟩
end Go.Proofs.Ytnacfljfalkonaa.Q
