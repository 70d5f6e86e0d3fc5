/- impl.SystemText and spec.SystemText by hand: the text of a valid system, "" of any other. -/
import Derived.Test.YtdhhnkhgmoblhaaDoorQhandTold
import Derived.Test.YtdhhnkhgmoblhaaDoorQhandValid
import Derived.Test.YtdhhnkhgmoblhaaDoorQisSNew
import Derived.Test.YtdhhnkhgmoblhaaDoorQimpldecimal
import Derived.Test.YtdhhnkhgmoblhaaDoorQlibDec
namespace Go.Proofs.YtdhhnkhgmoblhaaDoor.Q
open Go.RowKit Go.Proofs.YtdhhnkhgmoblhaaDoorW.PrintWords Go.Proofs.YtdhhnkhgmoblhaaDoorW.PrintLast Go.Proofs.YtdhhnkhgmoblhaaDoorW.PrintMore
open Go.Proofs.YtdhhnkhgmoblhaaDoor.Pure
set_option linter.unusedVariables false
set_option linter.unusedSimpArgs false

def textOf (s : List SG) (m : List MP) : ByteArray := if okB s m = true then toldT s m else ⟨#[]⟩
theorem fineS_of_ok {s : List SG} {m : List MP} (h : okB s m = true) : fineS s m := by
  unfold okB headB at h
  simp only [Bool.and_eq_true, decide_eq_true_iff, List.all_eq_true] at h
  refine ⟨by omega, by omega, fun x hx => ?_⟩
  obtain ⟨i, hi, rfl⟩ := List.getElem_of_mem hx
  have := h.1.2 i (List.mem_range.2 hi)
  unfold sgB rngB at this
  rw [rdSG_get _ _ hi] at this
  simp only [Bool.and_eq_true, decide_eq_true_iff] at this
  omega
def bigS (s : List SG) (m : List MP) : Prop := s.length ≤ 1048576 ∧ m.length ≤ 1048576 ∧ (s.all (fun x => decide (-32768 ≤ x.f1) && decide (x.f1 ≤ 32767))) = true
theorem spec_SystemText.callsT (A0 : Option Addr) (c0 : Nat) (l0 : List SG) (A1 : Option Addr) (c1 : Nat) (l1 : List MP) (w : World) (hr0 : Kd.C k56 w A0 l0.length l0) (hc0 : l0.length ≤ c0) (hr1 : Kd.C k59 w A1 l1.length l1) (hc1 : l1.length ≤ c1) (hf : bigS l0 l1) :
    Calls Tryd.prog 8 #[.agg #[.slice A0 l0.length c0, .slice A1 l1.length c1]] w fun e w' => e = .returned (.string (textOf l0 l1)) ∧ Below w.heap.size w w' := by
  have HC := Lib.hid (spec_l03Ok.calls w.heap.size l0 l1 (okB l0 l1) w _ (isS_new hr0 hr1 (c0_0 := c0) (c0_1 := c1)) (below_alloc (Below.refl _ _) _) (by unfold spec_l03Ok.f; exact if_pos hf))
  clear hr0 hr1
  unfold textOf
  by_cases ok : okB l0 l1 = true
  · rw [ok] at HC ⊢
    have HF := Lib.hid (fineS_of_ok ok)
    go_enter Tryd.func8, Tryd.ntmps8
    go_wp2_with (first | (go_at_call 25; refine HC.out.mono ?_; rintro e w1 ⟨rfl, hi, hb, _⟩; have HI := Lib.hid hi; have HB := Lib.hid hb; clear hi hb) | (go_at_call 26; refine (spec_l03Told.calls w.heap.size l0 l1 w _ HI.out HB.out HF.out).mono ?_; rintro e w2 ⟨rfl, _, hb⟩; have HB2 := Lib.hid hb; clear hb))
    go_ret
    exact ⟨rfl, HB2.out⟩
  · have ok2 : okB l0 l1 = false := by simpa using ok
    rw [ok2] at HC ⊢
    go_enter Tryd.func8, Tryd.ntmps8
    go_wp2_with (first | (go_at_call 25; refine HC.out.mono ?_; rintro e w1 ⟨rfl, hi, hb, _⟩; have HB := Lib.hid hb; clear hi hb))
    go_ret
    exact ⟨rfl, HB.out⟩

theorem dec_of {n : Int} (h0 : -9223372036854775808 ≤ n) (h1 : n ≤ 9223372036854775807) : strconv_FormatInt_61.f n 10 = some (itoaB n) := by
  unfold strconv_FormatInt_61.f
  rw [if_pos ⟨rfl, h0, h1⟩]
  rfl
set_option maxRecDepth 20000 in
set_option maxHeartbeats 8000000 in
theorem impl_SystemText.callsT (A0 : Option Addr) (c0 : Nat) (l0 : List SG) (A1 : Option Addr) (c1 : Nat) (l1 : List MP) (w : World) (hG : GlobP w) (hr0 : Kd.C k56 w A0 l0.length l0) (hc0 : l0.length ≤ c0) (hr1 : Kd.C k59 w A1 l1.length l1) (hc1 : l1.length ≤ c1) (hf : bigS l0 l1) :
    Calls Tryd.prog 10 #[.agg #[.slice A0 l0.length c0, .slice A1 l1.length c1]] w fun e w' => e = .returned (.string (textOf l0 l1)) ∧ Below w.heap.size w w' := by
  have HG := Lib.hid hG
  have HB1 := Lib.hid (below_alloc (Below.refl w.heap.size w) (.cells #[.slice A0 l0.length c0, .slice A1 l1.length c1] 30))
  have HBK := Lib.hid (heap_alloc_new w (.cells #[.slice A0 l0.length c0, .slice A1 l1.length c1] 30))
  have HV := Lib.hid (impl_ValidSystem.calls A0 c0 l0 A1 c1 l1 (okB l0 l1) (w.alloc (.cells #[.slice A0 l0.length c0, .slice A1 l1.length c1] 30)) (Kd.C_below hr0 HB1.out) hc0 (Kd.C_below hr1 HB1.out) hc1 (by unfold impl_ValidSystem.f; exact if_pos hf))
  have HR0 := Lib.hid hr0
  have HR1 := Lib.hid hr1
  clear hG hr0 hr1
  unfold textOf
  by_cases ok : okB l0 l1 = true
  rotate_left
  · have ok2 : okB l0 l1 = false := by simpa using ok
    rw [ok2] at HV ⊢
    clear ok
    go_enter Tryd.func10, Tryd.ntmps10
    go_wp2_with (first | (go_at_call 29; with_reducible refine HV.out.mono ?_; rintro e w1 ⟨rfl, hb⟩; have HB := Lib.hid (below_step HB1.out hb); clear hb))
    go_ret
    exact ⟨rfl, HB.out⟩
  have HF := Lib.hid (fineS_of_ok ok)
  rw [ok] at HV
  rw [if_pos ok]
  clear ok
  have SZ := Lib.hid (fun k => preT_size sgT l0 k HF.out.1 (fun x hx => sgT_size (HF.out.2.2 x hx).1 (by have := (HF.out.2.2 x hx).2; omega)))
  have MZ := Lib.hid (fun k => preT_size mpT l1 k HF.out.2.1 (fun x hx => by show (strOfNums _).size ≤ 6; rw [two_size]; omega))
  have LZ0 := Lib.hid HF.out.1
  have LZ1 := Lib.hid HF.out.2.1
  have hl8 : l0.length ≤ 8 := HF.out.1
  have hl9 : l1.length ≤ 8 := HF.out.2.1
  go_enter Tryd.func10, Tryd.ntmps10
  go_wp2_with (first | (go_at_call 29; with_reducible refine HV.out.mono ?_; rintro e wv ⟨rfl, hb⟩; have HB := Lib.hid (below_step HB1.out hb); have BK := Lib.hid (blk_below HBK.out hb); have SV := Lib.hid (show w.heap.size < wv.heap.size from by have := hb.size; simp at this; omega); clear hb) | ((with_reducible refine gate_dst (N := 12) rfl ?_); refine Kd.R_lit Kd.string (w0 := wv) wv.heap.size 9 ?hg (N := 12) ?hd (xs := ([] : List ByteArray)) (inner := []) (ok := fun _ => True) (okp := fun _ => True) ?hr ?hp (fun _ hk => hk) trivial (Below.refl _ _) (Nat.le_refl _) (by simp) ?_; (case hd => rfl); (case hg => rfl); (case hr => first | (go_simp; done) | (go_simp; rfl)); (case hp => exact (Reps.none _ _)); intro v3 w3 ho hb hg_ hnew_; have HO3 := Lib.hid ho; have HW3 := Lib.hid hb; clear ho hb hg_ hnew_) | ((with_reducible refine gate_dst (N := 13) rfl ?_); refine Kd.R_lit Kd.string (w0 := wv) wv.heap.size 9 ?hg (N := 13) ?hd (xs := ([] : List ByteArray)) (inner := []) (ok := fun _ => True) (okp := fun _ => True) ?hr ?hp (fun _ hk => hk) trivial HW3.out HW3.out.size (by simp) ?_; (case hd => rfl); (case hg => rfl); (case hr => first | (go_simp; done) | (go_simp; rfl)); (case hp => exact (Reps.none _ _)); intro v4 w4 ho hb hg_ hnew_; have HE := Lib.hid ho; have HW4 := Lib.hid hb; have NE := Lib.hid (ne_new HO3.out hnew_); have HR := Lib.hid (Kd.R_grown HO3.out hg_ (fun _ _ => by simp)); have hd0 : w4.cell? ⟨w.heap.size, 0, none⟩ = some (.slice A0 l0.length c0) := bcell HW4.out ((blk_cell BK.out 0).trans rfl); clear ho hb hg_ hnew_ HO3 HW3))
  clear hd0
  go_loopw [3, 17] (fun v i wr => ∃ k : Nat, k ≤ l0.length ∧ i = .int .i64 k ∧ RowKit.Hid (Kd.R Kd.string 9 wr wv.heap.size (fun _ => True) v ((l0.take k).map sgT)) ∧ RowKit.Hid (Kd.R Kd.string 9 wr wv.heap.size (fun _ => True) v4 ([] : List ByteArray)) ∧ RowKit.Hid (v.ownBlock ≠ v4.ownBlock) ∧ RowKit.Hid (Below wv.heap.size wv wr)) (fun _ i _ => l0.length - (intOf i).toNat)
  case atStart => exact ⟨0, Nat.zero_le _, rfl, HR, HE, NE, HW4⟩
  case round =>
    clear HR HE NE HW4
    obtain ⟨k, hk, rfl, HR, HE, NE, HW⟩ := hrel
    have HW0 := Lib.hid (below_step HB.out HW.out)
    have hd1 : wr.cell? ⟨w.heap.size, 1, none⟩ = some (.slice A1 l1.length c1) := bcell HW.out ((blk_cell BK.out 1).trans rfl)
    by_cases hlt : k < l0.length
    · have hlt2 : (k : Int) < (l0.length : Int) := by omega
      clear hd1
      obtain ⟨ad2, ea, hx, hy⟩ := at_T56 (Kd.C_below HR0.out HW0.out) (k : Nat) (by omega) (by omega)
      cases ea
      simp only [Int.toNat_natCast] at hx hy
      have EX := Lib.hid (rdSG_get _ _ hlt)
      have hfit := HF.out.2.2 _ (List.getElem_mem hlt)
      rw [← rdSG_get _ _ hlt] at hfit
      have HD := Lib.hid (show impl_decimal.f (wrap64 (rd_T56 l0 (k : Int)).f1) = some (itoaB (rd_T56 l0 (k : Int)).f1) from by rw [wrap_id (by omega) (by omega)]; unfold impl_decimal.f; rw [dec_of (by omega) (by omega)]; first | rfl | simp)
      obtain ⟨ib, hib⟩ : ∃ ib, ib = itoaB (rd_T56 l0 (k : Int)).f1 := ⟨_, rfl⟩
      have z3 : (itoaB (rd_T56 l0 (k : Int)).f1).size ≤ 5 := itoaB_size hfit.1 (by have := hfit.2; omega)
      obtain ⟨sb, hsb⟩ : ∃ sb, sb = strOfNums [(rd_T56 l0 (k : Int)).f0] := ⟨_, rfl⟩
      have z4 : sb.size = 1 := by rw [hsb]; rfl
      rw [← hib] at HD z3
      have PS := Lib.hid (show (l0.take k).map sgT ++ [sb ++ ib] = (l0.take (k + 1)).map sgT from by rw [map_stepT sgT l0 k hlt, ← EX.out, hsb, hib]; rfl)
      have HSB := Lib.hid hsb
      clear hfit hib hsb
      have y1a : decide (sb.size + ib.size ≤ 9223372036854775807) = true := decide_eq_true (by omega)
      have y1b : (9223372036854775807 < sb.size + ib.size) = False := eq_false (by omega)
      clear z3 z4
      go_wp2
      have BP := Lib.hid (show (wr.alloc (.cells #[.int .u8 (rd_T56 l0 (k : Int)).f0, .int .i16 (rd_T56 l0 (k : Int)).f1] 56)).drew.heap[wr.heap.size]? = some (.cells #[.int .u8 (rd_T56 l0 (k : Int)).f0, .int .i16 (rd_T56 l0 (k : Int)).f1] 56) from heap_alloc_new wr (.cells #[.int .u8 (rd_T56 l0 (k : Int)).f0, .int .i16 (rd_T56 l0 (k : Int)).f1] 56))
      have HR2 := Lib.hid (show Kd.R Kd.string 9 (wr.alloc (.cells #[.int .u8 (rd_T56 l0 (k : Int)).f0, .int .i16 (rd_T56 l0 (k : Int)).f1] 56)).drew wv.heap.size (fun _ => True) u3 ((l0.take k).map sgT) from Kd.R_drew (Kd.R_alloc HR.out (.cells #[.int .u8 (rd_T56 l0 (k : Int)).f0, .int .i16 (rd_T56 l0 (k : Int)).f1] 56)))
      have HE2 := Lib.hid (show Kd.R Kd.string 9 (wr.alloc (.cells #[.int .u8 (rd_T56 l0 (k : Int)).f0, .int .i16 (rd_T56 l0 (k : Int)).f1] 56)).drew wv.heap.size (fun _ => True) v4 ([] : List ByteArray) from Kd.R_drew (Kd.R_alloc HE.out (.cells #[.int .u8 (rd_T56 l0 (k : Int)).f0, .int .i16 (rd_T56 l0 (k : Int)).f1] 56)))
      have HV2 := Lib.hid (show Below wv.heap.size wv (wr.alloc (.cells #[.int .u8 (rd_T56 l0 (k : Int)).f0, .int .i16 (rd_T56 l0 (k : Int)).f1] 56)).drew from below_drew1 (below_alloc HW.out (.cells #[.int .u8 (rd_T56 l0 (k : Int)).f0, .int .i16 (rd_T56 l0 (k : Int)).f1] 56)))
      have hp0 : (wr.alloc (.cells #[.int .u8 (rd_T56 l0 (k : Int)).f0, .int .i16 (rd_T56 l0 (k : Int)).f1] 56)).drew.cell? ⟨wr.heap.size, 0, none⟩ = some (.int .u8 (rd_T56 l0 (k : Int)).f0) := (blk_cell BP.out 0).trans rfl
      have hp1 : (wr.alloc (.cells #[.int .u8 (rd_T56 l0 (k : Int)).f0, .int .i16 (rd_T56 l0 (k : Int)).f1] 56)).drew.cell? ⟨wr.heap.size, 1, none⟩ = some (.int .i16 (rd_T56 l0 (k : Int)).f1) := (blk_cell BP.out 1).trans rfl
      clear HR HE HW HW0 hx hy BP
      refine start_ (n := 13) (S := fun w' => Below (wr.alloc (.cells #[.int .u8 (rd_T56 l0 (k : Int)).f0, .int .i16 (rd_T56 l0 (k : Int)).f1] 56)).drew.heap.size (wr.alloc (.cells #[.int .u8 (rd_T56 l0 (k : Int)).f0, .int .i16 (rd_T56 l0 (k : Int)).f1] 56)).drew w') (ds := [11]) #[false, false, false, false, false, false, false, false, false, false, false, false, false] (by kernel_rfl) rfl rfl (Below.refl _ _) (fun hHeld => ?_)
      generalize (wr.alloc (.cells #[.int .u8 (rd_T56 l0 (k : Int)).f0, .int .i16 (rd_T56 l0 (k : Int)).f1] 56)).drew = wq at HR2 HE2 HV2 hp0 hp1 hHeld ⊢
      refine pure_ (i := 0) (N := some 21) (v := ?_) (a' := ?_) #[true, false, false, false, false, false, false, false, false, false, false, false, false] rfl rfl (by kernel_rfl) (fun _ _ _ h => h) (Or.inl ⟨by rfl, ?_⟩) ?_ ?_
      rotate_left
      · intro w'
        go_simp
        with_reducible rfl
      rotate_left
      · simp only [Act.put, List.setIfInBounds_toArray, List.set_cons_zero, List.set_cons_succ, i64_w, i32_w]
        rfl
      refine pure_ (i := 1) (N := some 22) (v := ?_) (a' := ?_) #[true, true, false, false, false, false, false, false, false, false, false, false, false] rfl rfl (by kernel_rfl) (fun _ _ _ h => h) (Or.inl ⟨by rfl, ?_⟩) ?_ ?_
      rotate_left
      · intro w'
        go_simp
        with_reducible rfl
      rotate_left
      · simp only [Act.put, List.setIfInBounds_toArray, List.set_cons_zero, List.set_cons_succ, i64_w, i32_w]
        rfl
      refine take_ (i := 2) (N := some 23) (v := ?_) (a' := ?_) #[true, true, true, false, false, false, false, false, false, false, false, false, false] rfl rfl (by kernel_rfl) (fun _ _ _ h => h) (Or.inl ⟨by rfl, ?_⟩) hHeld ?_ ?_
      rotate_left
      · rintro w' hS
        have q_hp0 := bcell hS hp0
        have q_hp1 := bcell hS hp1
        go_simp
        with_reducible rfl
      rotate_left
      · simp only [Act.put, List.setIfInBounds_toArray, List.set_cons_zero, List.set_cons_succ, i64_w, i32_w]
        rfl
      refine pure_ (i := 5) (N := some 26) (v := ?_) (a' := ?_) #[true, true, true, false, false, true, false, false, false, false, false, false, false] rfl rfl (by kernel_rfl) (fun _ _ _ h => h) (Or.inl ⟨by rfl, ?_⟩) ?_ ?_
      rotate_left
      · intro w'
        go_simp
        with_reducible rfl
      rotate_left
      · simp only [Act.put, List.setIfInBounds_toArray, List.set_cons_zero, List.set_cons_succ, i64_w, i32_w]
        rfl
      refine take_ (i := 6) (N := some 27) (v := ?_) (a' := ?_) #[true, true, true, false, false, true, true, false, false, false, false, false, false] rfl rfl (by kernel_rfl) (fun _ _ _ h => h) (Or.inl ⟨by rfl, ?_⟩) hHeld ?_ ?_
      rotate_left
      · rintro w' hS
        have q_hp0 := bcell hS hp0
        have q_hp1 := bcell hS hp1
        go_simp
        with_reducible rfl
      rotate_left
      · simp only [Act.put, List.setIfInBounds_toArray, List.set_cons_zero, List.set_cons_succ, i64_w, i32_w]
        rfl
      refine pure_ (i := 7) (N := some 28) (v := ?_) (a' := ?_) #[true, true, true, false, false, true, true, true, false, false, false, false, false] rfl rfl (by kernel_rfl) (fun _ _ _ h => h) (Or.inl ⟨by rfl, ?_⟩) ?_ ?_
      rotate_left
      · intro w'
        go_simp
        with_reducible rfl
      rotate_left
      · simp only [Act.put, List.setIfInBounds_toArray, List.set_cons_zero, List.set_cons_succ, i64_w, i32_w]
        rfl
      refine two_ (i := 3) (j := 8) (Ni := some 24) (Nj := some 29) #[true, true, true, true, false, true, true, true, false, false, false, false, false] #[true, true, true, false, false, true, true, true, true, false, false, false, false] rfl rfl rfl rfl (by kernel_rfl) (by decide) (by decide) (fun K hK => ?_) (fun K hK => ?_)
      · skip
        refine Kd.R_lit_step (Kd.int .u8) _ 5 ?hgu1 (N := 24) ?hdu1 (xs := ([(rd_T56 l0 (k : Int)).f0] : List Int)) (inner := [.int .u8 (rd_T56 l0 (k : Int)).f0]) (ok := fun _ => True) (okp := fun _ => True) ?hru1 ?hpu1 (fun _ hk => hk) trivial (Below.refl _ _) (Nat.le_refl _) (by simp) ?_
        (case hdu1 => rfl)
        (case hgu1 => rfl)
        (case hru1 => first | (go_simp; done) | (go_simp; rfl))
        (case hpu1 => exact (Reps.one (show Kd.M (Kd.int .u8) _ _ _ (rd_T56 l0 (k : Int)).f0 [.int .u8 (rd_T56 l0 (k : Int)).f0] from rfl) (Reps.none _ _)))
        intro vl wz ho hb hg_ hnew_
        clear hg_ hnew_
        have HL := Lib.hid ho
        clear ho
        have hS_ := below_step hHeld hb
        clear hb hHeld
        refine hK.out _ _ hS_ (fun hHeld => ?_)
        clear hK K hS_
        refine norm_ (a' := ?_) ?_ ?_
        rotate_left
        · show Act.put _ (some 24) _ = _
          simp only [Act.put, List.setIfInBounds_toArray, List.set_cons_zero, List.set_cons_succ, i64_w, i32_w]
          rfl
        refine two_ (i := 4) (j := 8) (Ni := some 25) (Nj := some 29) #[true, true, true, true, true, true, true, true, false, false, false, false, false] #[true, true, true, true, false, true, true, true, true, false, false, false, false] rfl rfl rfl rfl (by kernel_rfl) (by decide) (by decide) (fun K hK => ?_) (fun K hK => ?_)
        · skip
          have hcv := own_string (P := Tryd.prog) Tryd.underlying57 Tryd.underlying5 Tryd.underlying9 (Kd.own_of_R HL.out)
          rw [← HSB.out] at hcv
          refine value_ (w1 := ?_) (v := ?_) (by rfl) rfl ?_ ?_
          rotate_left 2
          · go_simp
            constructor
            · rfl
            · rfl
          clear hcv HL
          refine hK.out _ _ hHeld (fun hHeld => ?_)
          clear hK K
          refine norm_ (a' := ?_) ?_ ?_
          rotate_left
          · show Act.put _ (some 25) _ = _
            simp only [Act.put, List.setIfInBounds_toArray, List.set_cons_zero, List.set_cons_succ, i64_w, i32_w]
            rfl
          refine one_ (i := 8) (N := some 29) #[true, true, true, true, true, true, true, true, true, false, false, false, false] rfl rfl (by kernel_rfl) (by decide) (fun K hK => ?_)
          refine goes_ Tryd.func30 (by kernel_rfl) rfl #[.int .i64 (wrap64 (rd_T56 l0 (k : Int)).f1)] (by rfl) rfl rfl (by (try simp only [List.map_toArray, List.map_cons, List.map_nil]); first | done | rfl | (simp only [List.length_drop, List.length_take]; rfl)) ?_
          with_reducible refine (impl_decimal.calls (wrap64 (rd_T56 l0 (k : Int)).f1) ib _ (HG.out.step (below_step HB.out (below_step HV2.out hHeld))) HD.out).mono ?_
          rintro e wz ⟨rfl, hb⟩
          refine ⟨_, rfl, ?_⟩
          have hS_ := below_step hHeld hb
          clear hb hHeld
          refine hK.out _ _ hS_ (fun hHeld => ?_)
          clear hK K hS_
          refine norm_ (a' := ?_) ?_ ?_
          rotate_left
          · show Act.put _ (some 29) _ = _
            simp only [Act.put, List.setIfInBounds_toArray, List.set_cons_zero, List.set_cons_succ, i64_w, i32_w]
            rfl
          refine pure_ (i := 9) (N := some 30) (v := ?_) (a' := ?_) #[true, true, true, true, true, true, true, true, true, true, false, false, false] rfl rfl (by kernel_rfl) (fun _ _ _ h => h) (Or.inl ⟨by rfl, ?_⟩) ?_ ?_
          rotate_left
          · intro w'
            go_simp
            with_reducible rfl
          rotate_left
          · simp only [Act.put, List.setIfInBounds_toArray, List.set_cons_zero, List.set_cons_succ, i64_w, i32_w]
            rfl
          refine one_ (i := 10) (N := some 31) #[true, true, true, true, true, true, true, true, true, true, true, false, false] rfl rfl (by kernel_rfl) (by decide) (fun K hK => ?_)
          refine value_ (w1 := ?_) (v := ?_) (by rfl) rfl ?_ ?_
          rotate_left 2
          · go_simp
            constructor
            · rfl
            · rfl
          refine hK.out _ _ (below_alloc hHeld _) (fun _ => ?_)
          clear hK K
          refine norm_ (a' := ?_) ?_ ?_
          rotate_left
          · show Act.put _ (some 31) _ = _
            simp only [Act.put, List.setIfInBounds_toArray, List.set_cons_zero, List.set_cons_succ, i64_w, i32_w]
            rfl
          refine last_ (i := 11) (N := some 32) #[true, true, true, true, true, true, true, true, true, true, true, true, false] rfl rfl (by kernel_rfl) (by decide) (fun K hK => ?_)
          refine Kd.R_append_step Kd.string (w0 := wv) wv.heap.size (by rfl) (.tmp 21) (.tmp 31) 37 9 (.string ⟨#[]⟩) 16 rfl Tryd.underlying37 info9 rfl (by decide) (by omega) u3 ((l0.take k).map sgT) (sb ++ ib) [.string (sb ++ ib)] (fun _ => True) (fun _ => False) rfl rfl ?aPv2 (fun _ hk => hk.elim) ?aFv2 ?aOv2 ?aBv2 ?aSv2 ?aLv2 ?_
          (case aPv2 => exact rfl)
          (case aFv2 => exact (fun _ _ => trivial))
          (case aOv2 => exact Kd.R_below HR2.out hHeld)
          (case aBv2 => exact below_step HV2.out hHeld)
          (case aSv2 => exact (below_step HV2.out hHeld).size)
          (case aLv2 => (rw [List.length_map, List.length_take]; have := LZ0.out; omega))
          intro v9 w9 ho hb hg hat
          rw [PS.out] at ho
          have HR9 := Lib.hid ho
          have HV9 := Lib.hid hb
          have HE9 := Lib.hid (Kd.R_grown1 (Kd.R_below HE2.out hHeld) rfl hg (by exact NE.out))
          have NE9 := Lib.hid (ne_after (Kd.R_below HE2.out hHeld) NE.out hat)
          clear ho hb hg hat
          refine hK.out _ _ ?_
          clear hK K
          refine norm_ (a' := ?_) ?_ ?_
          rotate_left
          · show Act.put _ (some 32) _ = _
            simp only [Act.put, List.setIfInBounds_toArray, List.set_cons_zero, List.set_cons_succ, i64_w, i32_w]
            rfl
          refine pure_ (i := 12) (N := some 3) (v := ?_) (a' := ?_) #[true, true, true, true, true, true, true, true, true, true, true, true, true] rfl rfl (by kernel_rfl) (fun _ _ _ h => h) (Or.inl ⟨by rfl, ?_⟩) ?_ ?_
          rotate_left
          · intro w'
            go_simp
            with_reducible rfl
          rotate_left
          · simp only [Act.put, List.setIfInBounds_toArray, List.set_cons_zero, List.set_cons_succ, i64_w, i32_w]
            rfl
          refine done_ (by kernel_rfl) ?_
          go_wp2
          go_roundw
          case measure => simp only [intOf]; omega
          case rel => exact ⟨k + 1, by omega, by go_num, HR9, HE9, NE9, HV9⟩
        · skip
          refine goes_ Tryd.func30 (by kernel_rfl) rfl #[.int .i64 (wrap64 (rd_T56 l0 (k : Int)).f1)] (by rfl) rfl rfl (by (try simp only [List.map_toArray, List.map_cons, List.map_nil]); first | done | rfl | (simp only [List.length_drop, List.length_take]; rfl)) ?_
          with_reducible refine (impl_decimal.calls (wrap64 (rd_T56 l0 (k : Int)).f1) ib _ (HG.out.step (below_step HB.out (below_step HV2.out hHeld))) HD.out).mono ?_
          rintro e wz ⟨rfl, hb⟩
          refine ⟨_, rfl, ?_⟩
          have m_HL := Lib.hid (Kd.R_below HL.out hb)
          clear HL
          have HL := m_HL
          clear m_HL
          have hS_ := below_step hHeld hb
          clear hb hHeld
          refine hK.out _ _ hS_ (fun hHeld => ?_)
          clear hK K hS_
          refine norm_ (a' := ?_) ?_ ?_
          rotate_left
          · show Act.put _ (some 29) _ = _
            simp only [Act.put, List.setIfInBounds_toArray, List.set_cons_zero, List.set_cons_succ, i64_w, i32_w]
            rfl
          refine one_ (i := 4) (N := some 25) #[true, true, true, true, true, true, true, true, true, false, false, false, false] rfl rfl (by kernel_rfl) (by decide) (fun K hK => ?_)
          have hcv := own_string (P := Tryd.prog) Tryd.underlying57 Tryd.underlying5 Tryd.underlying9 (Kd.own_of_R HL.out)
          rw [← HSB.out] at hcv
          refine value_ (w1 := ?_) (v := ?_) (by rfl) rfl ?_ ?_
          rotate_left 2
          · go_simp
            constructor
            · rfl
            · rfl
          clear hcv HL
          refine hK.out _ _ hHeld (fun hHeld => ?_)
          clear hK K
          refine norm_ (a' := ?_) ?_ ?_
          rotate_left
          · show Act.put _ (some 25) _ = _
            simp only [Act.put, List.setIfInBounds_toArray, List.set_cons_zero, List.set_cons_succ, i64_w, i32_w]
            rfl
          refine pure_ (i := 9) (N := some 30) (v := ?_) (a' := ?_) #[true, true, true, true, true, true, true, true, true, true, false, false, false] rfl rfl (by kernel_rfl) (fun _ _ _ h => h) (Or.inl ⟨by rfl, ?_⟩) ?_ ?_
          rotate_left
          · intro w'
            go_simp
            with_reducible rfl
          rotate_left
          · simp only [Act.put, List.setIfInBounds_toArray, List.set_cons_zero, List.set_cons_succ, i64_w, i32_w]
            rfl
          refine one_ (i := 10) (N := some 31) #[true, true, true, true, true, true, true, true, true, true, true, false, false] rfl rfl (by kernel_rfl) (by decide) (fun K hK => ?_)
          refine value_ (w1 := ?_) (v := ?_) (by rfl) rfl ?_ ?_
          rotate_left 2
          · go_simp
            constructor
            · rfl
            · rfl
          refine hK.out _ _ (below_alloc hHeld _) (fun _ => ?_)
          clear hK K
          refine norm_ (a' := ?_) ?_ ?_
          rotate_left
          · show Act.put _ (some 31) _ = _
            simp only [Act.put, List.setIfInBounds_toArray, List.set_cons_zero, List.set_cons_succ, i64_w, i32_w]
            rfl
          refine last_ (i := 11) (N := some 32) #[true, true, true, true, true, true, true, true, true, true, true, true, false] rfl rfl (by kernel_rfl) (by decide) (fun K hK => ?_)
          refine Kd.R_append_step Kd.string (w0 := wv) wv.heap.size (by rfl) (.tmp 21) (.tmp 31) 37 9 (.string ⟨#[]⟩) 16 rfl Tryd.underlying37 info9 rfl (by decide) (by omega) u3 ((l0.take k).map sgT) (sb ++ ib) [.string (sb ++ ib)] (fun _ => True) (fun _ => False) rfl rfl ?aPv3 (fun _ hk => hk.elim) ?aFv3 ?aOv3 ?aBv3 ?aSv3 ?aLv3 ?_
          (case aPv3 => exact rfl)
          (case aFv3 => exact (fun _ _ => trivial))
          (case aOv3 => exact Kd.R_below HR2.out hHeld)
          (case aBv3 => exact below_step HV2.out hHeld)
          (case aSv3 => exact (below_step HV2.out hHeld).size)
          (case aLv3 => (rw [List.length_map, List.length_take]; have := LZ0.out; omega))
          intro v9 w9 ho hb hg hat
          rw [PS.out] at ho
          have HR9 := Lib.hid ho
          have HV9 := Lib.hid hb
          have HE9 := Lib.hid (Kd.R_grown1 (Kd.R_below HE2.out hHeld) rfl hg (by exact NE.out))
          have NE9 := Lib.hid (ne_after (Kd.R_below HE2.out hHeld) NE.out hat)
          clear ho hb hg hat
          refine hK.out _ _ ?_
          clear hK K
          refine norm_ (a' := ?_) ?_ ?_
          rotate_left
          · show Act.put _ (some 32) _ = _
            simp only [Act.put, List.setIfInBounds_toArray, List.set_cons_zero, List.set_cons_succ, i64_w, i32_w]
            rfl
          refine pure_ (i := 12) (N := some 3) (v := ?_) (a' := ?_) #[true, true, true, true, true, true, true, true, true, true, true, true, true] rfl rfl (by kernel_rfl) (fun _ _ _ h => h) (Or.inl ⟨by rfl, ?_⟩) ?_ ?_
          rotate_left
          · intro w'
            go_simp
            with_reducible rfl
          rotate_left
          · simp only [Act.put, List.setIfInBounds_toArray, List.set_cons_zero, List.set_cons_succ, i64_w, i32_w]
            rfl
          refine done_ (by kernel_rfl) ?_
          go_wp2
          go_roundw
          case measure => simp only [intOf]; omega
          case rel => exact ⟨k + 1, by omega, by go_num, HR9, HE9, NE9, HV9⟩
      · skip
        refine goes_ Tryd.func30 (by kernel_rfl) rfl #[.int .i64 (wrap64 (rd_T56 l0 (k : Int)).f1)] (by rfl) rfl rfl (by (try simp only [List.map_toArray, List.map_cons, List.map_nil]); first | done | rfl | (simp only [List.length_drop, List.length_take]; rfl)) ?_
        with_reducible refine (impl_decimal.calls (wrap64 (rd_T56 l0 (k : Int)).f1) ib _ (HG.out.step (below_step HB.out (below_step HV2.out hHeld))) HD.out).mono ?_
        rintro e wz ⟨rfl, hb⟩
        refine ⟨_, rfl, ?_⟩
        have hS_ := below_step hHeld hb
        clear hb hHeld
        refine hK.out _ _ hS_ (fun hHeld => ?_)
        clear hK K hS_
        refine norm_ (a' := ?_) ?_ ?_
        rotate_left
        · show Act.put _ (some 29) _ = _
          simp only [Act.put, List.setIfInBounds_toArray, List.set_cons_zero, List.set_cons_succ, i64_w, i32_w]
          rfl
        refine one_ (i := 3) (N := some 24) #[true, true, true, true, false, true, true, true, true, false, false, false, false] rfl rfl (by kernel_rfl) (by decide) (fun K hK => ?_)
        refine Kd.R_lit_step (Kd.int .u8) _ 5 ?hgu4 (N := 24) ?hdu4 (xs := ([(rd_T56 l0 (k : Int)).f0] : List Int)) (inner := [.int .u8 (rd_T56 l0 (k : Int)).f0]) (ok := fun _ => True) (okp := fun _ => True) ?hru4 ?hpu4 (fun _ hk => hk) trivial (Below.refl _ _) (Nat.le_refl _) (by simp) ?_
        (case hdu4 => rfl)
        (case hgu4 => rfl)
        (case hru4 => first | (go_simp; done) | (go_simp; rfl))
        (case hpu4 => exact (Reps.one (show Kd.M (Kd.int .u8) _ _ _ (rd_T56 l0 (k : Int)).f0 [.int .u8 (rd_T56 l0 (k : Int)).f0] from rfl) (Reps.none _ _)))
        intro vl wz ho hb hg_ hnew_
        clear hg_ hnew_
        have HL := Lib.hid ho
        clear ho
        have hS_ := below_step hHeld hb
        clear hb hHeld
        refine hK.out _ _ hS_ (fun hHeld => ?_)
        clear hK K hS_
        refine norm_ (a' := ?_) ?_ ?_
        rotate_left
        · show Act.put _ (some 24) _ = _
          simp only [Act.put, List.setIfInBounds_toArray, List.set_cons_zero, List.set_cons_succ, i64_w, i32_w]
          rfl
        refine one_ (i := 4) (N := some 25) #[true, true, true, true, true, true, true, true, true, false, false, false, false] rfl rfl (by kernel_rfl) (by decide) (fun K hK => ?_)
        have hcv := own_string (P := Tryd.prog) Tryd.underlying57 Tryd.underlying5 Tryd.underlying9 (Kd.own_of_R HL.out)
        rw [← HSB.out] at hcv
        refine value_ (w1 := ?_) (v := ?_) (by rfl) rfl ?_ ?_
        rotate_left 2
        · go_simp
          constructor
          · rfl
          · rfl
        clear hcv HL
        refine hK.out _ _ hHeld (fun hHeld => ?_)
        clear hK K
        refine norm_ (a' := ?_) ?_ ?_
        rotate_left
        · show Act.put _ (some 25) _ = _
          simp only [Act.put, List.setIfInBounds_toArray, List.set_cons_zero, List.set_cons_succ, i64_w, i32_w]
          rfl
        refine pure_ (i := 9) (N := some 30) (v := ?_) (a' := ?_) #[true, true, true, true, true, true, true, true, true, true, false, false, false] rfl rfl (by kernel_rfl) (fun _ _ _ h => h) (Or.inl ⟨by rfl, ?_⟩) ?_ ?_
        rotate_left
        · intro w'
          go_simp
          with_reducible rfl
        rotate_left
        · simp only [Act.put, List.setIfInBounds_toArray, List.set_cons_zero, List.set_cons_succ, i64_w, i32_w]
          rfl
        refine one_ (i := 10) (N := some 31) #[true, true, true, true, true, true, true, true, true, true, true, false, false] rfl rfl (by kernel_rfl) (by decide) (fun K hK => ?_)
        refine value_ (w1 := ?_) (v := ?_) (by rfl) rfl ?_ ?_
        rotate_left 2
        · go_simp
          constructor
          · rfl
          · rfl
        refine hK.out _ _ (below_alloc hHeld _) (fun _ => ?_)
        clear hK K
        refine norm_ (a' := ?_) ?_ ?_
        rotate_left
        · show Act.put _ (some 31) _ = _
          simp only [Act.put, List.setIfInBounds_toArray, List.set_cons_zero, List.set_cons_succ, i64_w, i32_w]
          rfl
        refine last_ (i := 11) (N := some 32) #[true, true, true, true, true, true, true, true, true, true, true, true, false] rfl rfl (by kernel_rfl) (by decide) (fun K hK => ?_)
        refine Kd.R_append_step Kd.string (w0 := wv) wv.heap.size (by rfl) (.tmp 21) (.tmp 31) 37 9 (.string ⟨#[]⟩) 16 rfl Tryd.underlying37 info9 rfl (by decide) (by omega) u3 ((l0.take k).map sgT) (sb ++ ib) [.string (sb ++ ib)] (fun _ => True) (fun _ => False) rfl rfl ?aPv5 (fun _ hk => hk.elim) ?aFv5 ?aOv5 ?aBv5 ?aSv5 ?aLv5 ?_
        (case aPv5 => exact rfl)
        (case aFv5 => exact (fun _ _ => trivial))
        (case aOv5 => exact Kd.R_below HR2.out hHeld)
        (case aBv5 => exact below_step HV2.out hHeld)
        (case aSv5 => exact (below_step HV2.out hHeld).size)
        (case aLv5 => (rw [List.length_map, List.length_take]; have := LZ0.out; omega))
        intro v9 w9 ho hb hg hat
        rw [PS.out] at ho
        have HR9 := Lib.hid ho
        have HV9 := Lib.hid hb
        have HE9 := Lib.hid (Kd.R_grown1 (Kd.R_below HE2.out hHeld) rfl hg (by exact NE.out))
        have NE9 := Lib.hid (ne_after (Kd.R_below HE2.out hHeld) NE.out hat)
        clear ho hb hg hat
        refine hK.out _ _ ?_
        clear hK K
        refine norm_ (a' := ?_) ?_ ?_
        rotate_left
        · show Act.put _ (some 32) _ = _
          simp only [Act.put, List.setIfInBounds_toArray, List.set_cons_zero, List.set_cons_succ, i64_w, i32_w]
          rfl
        refine pure_ (i := 12) (N := some 3) (v := ?_) (a' := ?_) #[true, true, true, true, true, true, true, true, true, true, true, true, true] rfl rfl (by kernel_rfl) (fun _ _ _ h => h) (Or.inl ⟨by rfl, ?_⟩) ?_ ?_
        rotate_left
        · intro w'
          go_simp
          with_reducible rfl
        rotate_left
        · simp only [Act.put, List.setIfInBounds_toArray, List.set_cons_zero, List.set_cons_succ, i64_w, i32_w]
          rfl
        refine done_ (by kernel_rfl) ?_
        go_wp2
        go_roundw
        case measure => simp only [intOf]; omega
        case rel => exact ⟨k + 1, by omega, by go_num, HR9, HE9, NE9, HV9⟩
    · have hlt2 : ¬ (k : Int) < (l0.length : Int) := by omega
      have HR3 := Lib.hid (show Kd.R Kd.string 9 wr wv.heap.size (fun _ => True) u3 (l0.map sgT) by have := HR.out; rw [List.take_of_length_le (by omega)] at this; exact this)
      clear HR
      go_wp2
      clear hd1
      go_loopw [4, 37] (fun v i wr => ∃ j : Nat, j ≤ l1.length ∧ i = .int .i64 j ∧ RowKit.Hid (Kd.R Kd.string 9 wr wv.heap.size (fun _ => True) v ((l1.take j).map mpT)) ∧ RowKit.Hid (Kd.R Kd.string 9 wr wv.heap.size (fun _ => True) u3 (l0.map sgT)) ∧ RowKit.Hid (v.ownBlock ≠ u3.ownBlock) ∧ RowKit.Hid (Below wv.heap.size wv wr)) (fun _ i _ => l1.length - (intOf i).toNat)
      case atStart => exact ⟨0, Nat.zero_le _, rfl, HE, HR3, Lib.hid (fun h => NE.out h.symm), HW⟩
      case round =>
        clear HR3 HE NE HW HW0 hlt2
        obtain ⟨j, hj, rfl, HE, HR, NE, HW⟩ := hrel
        by_cases hlt : j < l1.length
        · have hlt2 : (j : Int) < (l1.length : Int) := by omega
          obtain ⟨ad4, ea, hx, hy⟩ := at_T59 (Kd.C_below HR1.out (below_step HB.out HW.out)) (j : Nat) (by omega) (by omega)
          cases ea
          simp only [Int.toNat_natCast] at hx hy
          have EX := Lib.hid (rdA2_get _ _ hlt)
          have BP := Lib.hid (heap_alloc_new wr (.cells #[.int .u8 (rd_T59 l1 (j : Int)).f0, .int .u8 (rd_T59 l1 (j : Int)).f1] 59))
          have hcv := run_convert_bytes_arg (P := Tryd.prog) (wr.alloc (.cells #[.int .u8 (rd_T59 l1 (j : Int)).f0, .int .u8 (rd_T59 l1 (j : Int)).f1] 59)) 57 5 Tryd.underlying57 Tryd.underlying5 wr.heap.size 0 2 2 [(rd_T59 l1 (j : Int)).f0, (rd_T59 l1 (j : Int)).f1] rfl (two_cellsT ((blk_cell BP.out 0).trans rfl) ((blk_cell BP.out 1).trans rfl)) 9 Tryd.underlying9
          clear BP
          go_wp2_with (first | ((with_reducible refine gate_builtin (b := .append) (xs := #[.tmp 41, .tmp 44]) rfl ?_); at_builtin; refine Kd.R_append Kd.string (w0 := wv) wv.heap.size rfl (.tmp 41) (.tmp 44) 37 9 (.string ⟨#[]⟩) 16 rfl Tryd.underlying37 info9 rfl (by decide) (by omega) u4 ((l1.take j).map mpT) (mpT (rd_T59 l1 (j : Int))) [.string (strOfNums [(rd_T59 l1 (j : Int)).f0, (rd_T59 l1 (j : Int)).f1])] (fun _ => True) (fun _ => False) ?hS ?hX ?aP (fun _ hk => hk.elim) ?aF ?aO ?aB ?aS ?aL ?_; (case hS => rfl); (case hX => first | rfl | (go_simp; done) | (simp [World.alloc]; done) | (go_simp; rfl)); (case aP => exact rfl); (case aF => exact (fun _ _ => trivial)); (case aO => exact Kd.R_alloc HE.out _); (case aB => exact below_alloc HW.out _); (case aS => exact (below_alloc HW.out _).size); (case aL => rw [List.length_map, List.length_take]; have := LZ1.out; omega); intro v9 w9 ho hb hg hat; have HE9 := Lib.hid ho; have HW9 := Lib.hid hb; have HR9 := Lib.hid (Kd.R_grown1 (Kd.R_alloc HR.out _) rfl hg NE.out); have NE9 := Lib.hid (ne_after (Kd.R_alloc HR.out _) NE.out hat); clear ho hb hg hat))
          go_roundw
          case measure => simp only [intOf]; omega
          case rel => exact ⟨j + 1, by omega, by go_num, Lib.hid (by rw [map_stepT mpT l1 j hlt, ← EX.out]; exact HE9.out), HR9, NE9, HW9⟩
        · have hlt2 : ¬ (j : Int) < (l1.length : Int) := by omega
          have HE3 := Lib.hid (show Kd.R Kd.string 9 wr wv.heap.size (fun _ => True) u4 (l1.map mpT) by have := HE.out; rw [List.take_of_length_le (by omega)] at this; exact this)
          clear HE
          obtain ⟨A3, d3, e3⟩ := Kd.R_slice HR.out
          subst e3
          obtain ⟨A4, d4, e4⟩ := Kd.R_slice HE3.out
          subst e4
          have z1 := (SZ.out l0.length).1
          have z2 := (MZ.out l1.length).1
          rw [List.take_of_length_le (Nat.le_refl _)] at z1 z2
          have f1 : joinFine (l0.map sgT) := ⟨by rw [List.length_map]; have := LZ0.out; omega, fun x hx => by obtain ⟨y, hy, rfl⟩ := List.mem_map.1 hx; have := sgT_size (HF.out.2.2 y hy).1 (by have := (HF.out.2.2 y hy).2; omega); omega⟩
          have f2 : joinFine (l1.map mpT) := ⟨by rw [List.length_map]; have := LZ1.out; omega, fun x hx => by obtain ⟨y, hy, rfl⟩ := List.mem_map.1 hx; show (strOfNums _).size ≤ _; rw [two_size]; omega⟩
          have J1 := Lib.hid (show Calls Tryd.prog 31 #[.slice A3 l0.length d3, .string ⟨#[32]⟩] wr fun e w' => e = .returned (.string (joinB (l0.map sgT) blankT)) ∧ Below wr.heap.size wr w' from by have := strings_Join.calls A3 d3 (l0.map sgT) blankT wr (Kd.R_reads' HR.out).2.2 (Kd.R_reads' HR.out).2.1 f1 (by decide); rw [List.length_map] at this; exact this)
          obtain ⟨j1, hj1⟩ : ∃ j1, j1 = joinB (l0.map sgT) blankT := ⟨_, rfl⟩
          obtain ⟨j2, hj2⟩ : ∃ j2, j2 = joinB (l1.map mpT) blankT := ⟨_, rfl⟩
          have J2 := Lib.hid (fun (W : World) (hb : Below wr.heap.size wr W) => show Calls Tryd.prog 31 #[.slice A4 l1.length d4, .string ⟨#[32]⟩] W fun e w' => e = .returned (.string (joinB (l1.map mpT) blankT)) ∧ Below W.heap.size W w' from by have := strings_Join.calls A4 d4 (l1.map mpT) blankT W (Kd.C_below (Kd.R_reads' HE3.out).2.2 hb) (Kd.R_reads' HE3.out).2.1 f2 (by decide); rw [List.length_map] at this; exact this)
          rw [← hj1] at J1 z1
          rw [← hj2] at J2 z2
          have L0 := Lib.hid (show (l0.map sgT).length = l0.length from List.length_map ..)
          have ET := Lib.hid (show (j1 ++ (⟨#[59]⟩ : ByteArray)) ++ j2 = toldT l0 l1 from by rw [hj1, hj2]; rfl)
          have x2 : (j1 ++ (⟨#[59]⟩ : ByteArray)).size = j1.size + 1 := by rw [ByteArray.size_append]; rfl
          obtain ⟨LF, HLF⟩ : ∃ LF : ByteArray, LF = j1 ++ (⟨#[59]⟩ : ByteArray) := ⟨_, rfl⟩
          have x3 : LF.size ≤ 57 := by rw [HLF]; omega
          have y1a : decide (j1.size + 1 ≤ 9223372036854775807) = true := decide_eq_true (by omega)
          have y1b : (9223372036854775807 < j1.size + 1) = False := eq_false (by omega)
          have y2a : decide (j1.size + (⟨#[59]⟩ : ByteArray).size ≤ 9223372036854775807) = true := decide_eq_true (by (have e1 : (⟨#[59]⟩ : ByteArray).size = 1 := rfl; omega))
          have y2b : (9223372036854775807 < j1.size + (⟨#[59]⟩ : ByteArray).size) = False := eq_false (by (have e1 : (⟨#[59]⟩ : ByteArray).size = 1 := rfl; omega))
          have y3a : decide ((j1 ++ (⟨#[59]⟩ : ByteArray)).size + j2.size ≤ 9223372036854775807) = true := decide_eq_true (by omega)
          have y3b : (9223372036854775807 < (j1 ++ (⟨#[59]⟩ : ByteArray)).size + j2.size) = False := eq_false (by omega)
          have y4a : decide ((j1.size + 1) + j2.size ≤ 9223372036854775807) = true := decide_eq_true (by omega)
          have y4b : (9223372036854775807 < (j1.size + 1) + j2.size) = False := eq_false (by omega)
          have y5a : decide ((j1.size + (⟨#[59]⟩ : ByteArray).size) + j2.size ≤ 9223372036854775807) = true := decide_eq_true (by (have e1 : (⟨#[59]⟩ : ByteArray).size = 1 := rfl; omega))
          have y5b : (9223372036854775807 < (j1.size + (⟨#[59]⟩ : ByteArray).size) + j2.size) = False := eq_false (by (have e1 : (⟨#[59]⟩ : ByteArray).size = 1 := rfl; omega))
          have y6a : decide (j1.size + (1 + j2.size) ≤ 9223372036854775807) = true := decide_eq_true (by omega)
          have y6b : (9223372036854775807 < j1.size + (1 + j2.size)) = False := eq_false (by omega)
          clear x2 x3 z1 z2 f1 f2 hj1 hj2 HLF
          go_wp2_with (first | (go_at_call 31; with_reducible refine J1.out.mono ?_; rintro e w5 ⟨rfl, hb⟩; have HW5 := Lib.hid hb; clear hb) | (go_at_call 31; with_reducible refine (J2.out _ HW5.out).mono ?_; rintro e w6 ⟨rfl, hb⟩; have HW6 := Lib.hid (below_step HW5.out hb); clear hb))
          go_ret
          refine ⟨by first | rfl | (rw [← ET.out]; rfl), ?_⟩
          exact below_step HB.out (below_step HW.out HW6.out)
end Go.Proofs.YtdhhnkhgmoblhaaDoor.Q
