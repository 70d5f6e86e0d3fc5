/- spec.CountRight, by hand: the walk. -/
import Derived.Test.YtnacfljfalkonaaQhandCountB
import Derived.Deep.DeepCutAuto
namespace Go.Proofs.Ytnacfljfalkonaa.Q
open Go.RowKit Go.Proofs.YtnacfljfalkonaaW.PrintWords Go.Proofs.YtnacfljfalkonaaW.PrintLast Go.Proofs.YtnacfljfalkonaaW.PrintMore
open Go.Proofs.Ytnacfljfalkonaa.Pure
set_option linter.unusedVariables false
set_option linter.unusedSimpArgs false

set_option maxHeartbeats 8000000 in
set_option maxRecDepth 100000 in
theorem specCountC (A0 : Option Addr) (c0 : Nat) (s : List SG) (A1 : Option Addr) (c1 : Nat) (m : List MP) (n long : Int) (w : World) (hr0 : Kd.C k77 w A0 s.length s) (hr1 : Kd.C k79 w A1 m.length m) (hs : s.length ≤ 1048576) (hm : m.length ≤ 1048576) (hf : (s.all (fun x => decide (-32768 ≤ x.f1) && decide (x.f1 ≤ 32767))) = true) (r code : Int) (h : countR s m n long = (r, code)) :
    Calls Try.prog 10 #[.agg #[.slice A0 s.length c0, .slice A1 m.length c1], .int .i64 n, .int .i64 long] w fun e w' => e = .returned (.tuple #[.int .i64 r, .int .i64 code]) ∧ Below w.heap.size w w' := by
  have HC := Lib.hid (spec_l03Ok.calls w.heap.size s m (okB s m) w _ ⟨A0, c0, A1, c1, heap_alloc_new w (.cells #[.slice A0 s.length c0, .slice A1 m.length c1] 31), Nat.le_refl _, hr0, hr1⟩ (below_alloc (Below.refl _ _) _) (by unfold spec_l03Ok.f; rw [if_pos ⟨hs, hm, hf⟩]))
  unfold countR at h
  cases hok : okB s m with
  | false =>
    rw [hok, if_neg (by decide)] at h
    obtain ⟨rfl, rfl⟩ := Prod.mk.inj h
    rw [hok] at HC
    clear hr0 hr1 hok hf hs hm h
    go_enter Try.func10, Try.ntmps10
    go_wp2_with (first | (go_at_call 14; with_reducible refine HC.out.mono ?_; rintro e w' ⟨rfl, hi, hb, hk⟩; have HB := Lib.hid hb; have HI := Lib.hid hi; clear hi hb hk))
    go_ret2
    exact ⟨rfl, HB.out⟩
  | true =>
  rw [hok, if_pos rfl] at h
  rw [hok] at HC
  cases hb1 : (decide (0 ≤ n) && decide (n ≤ 1000)) with
  | false =>
    rw [hb1, Bool.false_and, if_neg (by decide)] at h
    obtain ⟨rfl, rfl⟩ := Prod.mk.inj h
    have HN1 := Lib.hid hb1
    clear hr0 hr1 hok hf hs hm h hb1
    go_enter Try.func10, Try.ntmps10
    go_wp2_with (first | (go_at_call 14; with_reducible refine HC.out.mono ?_; rintro e w' ⟨rfl, hi, hb, hk⟩; have HB := Lib.hid hb; have HI := Lib.hid hi; clear hi hb hk) | (go_at_call 24; with_reducible refine (spec_in_q n 0 1000 false _ HN1.out).mono ?_; rintro e w' ⟨rfl, rfl⟩))
    go_ret2
    exact ⟨rfl, HB.out⟩
  | true =>
  have HN1 := Lib.hid hb1
  cases hb2 : (decide (0 ≤ long) && decide (long ≤ 16)) with
  | false =>
    rw [hb1, hb2, Bool.true_and, if_neg (by decide)] at h
    obtain ⟨rfl, rfl⟩ := Prod.mk.inj h
    have HN2 := Lib.hid hb2
    clear hr0 hr1 hok hf hs hm h hb1 hb2
    go_enter Try.func10, Try.ntmps10
    go_wp2_with (first | (go_at_call 14; with_reducible refine HC.out.mono ?_; rintro e w' ⟨rfl, hi, hb, hk⟩; have HB := Lib.hid hb; have HI := Lib.hid hi; clear hi hb hk) | (go_at_call 24; with_reducible refine (spec_in_q n 0 1000 true _ HN1.out).mono ?_; rintro e w' ⟨rfl, rfl⟩) | (go_at_call 24; with_reducible refine (spec_in_q long 0 16 false _ HN2.out).mono ?_; rintro e w' ⟨rfl, rfl⟩))
    go_ret2
    exact ⟨rfl, HB.out⟩
  | true =>
  have HN2 := Lib.hid hb2
  rw [hb1, hb2, Bool.true_and, if_pos rfl] at h
  simp only [Bool.and_eq_true, decide_eq_true_eq] at hb1 hb2
  obtain ⟨nn, rfl⟩ : ∃ nn : Nat, n = nn := ⟨n.toNat, by omega⟩
  obtain ⟨lg, rfl⟩ : ∃ lg : Nat, long = lg := ⟨long.toNat, by omega⟩
  have hnn : nn ≤ 1000 := by omega
  have hlg : lg ≤ 16 := by omega
  rw [Int.toNat_natCast] at h
  have HL := Lib.hid (okL_pieces hok (fit_all hf))
  have HPF := Lib.hid (show spec_l03Pieces.f s m = some (piecesQ s m) by unfold spec_l03Pieces.f; rw [if_pos ⟨hs, hm, hf⟩])
  obtain ⟨L, hL⟩ : ∃ L, L = piecesQ s m := ⟨_, rfl⟩
  rw [← hL] at HL HPF h
  have HRES := Lib.hid h
  obtain ⟨kf, hkf⟩ := spec_l03Next.val HL.out s m hm
  have HNX := Lib.hid hkf
  have hl16 : (L.length : Int) ≤ 16 := by have := HL.out.len; omega
  clear hr0 hr1 hok hf hs hm h hb1 hb2 hL hkf
  go_enter Try.func10, Try.ntmps10
  go_wp2_with (first
    | (go_at_call 14; with_reducible refine HC.out.mono ?_; rintro e w' ⟨rfl, hi, hb, hk⟩; have HB := Lib.hid hb; have HI := Lib.hid hi; clear hi hb hk)
    | (go_at_call 24; with_reducible refine (spec_in_q (nn : Int) 0 1000 true _ HN1.out).mono ?_; rintro e w' ⟨rfl, rfl⟩)
    | (go_at_call 24; with_reducible refine (spec_in_q (lg : Int) 0 16 true _ HN2.out).mono ?_; rintro e w' ⟨rfl, rfl⟩)
    | (go_at_call 16
       with_reducible refine (spec_l03Pieces.calls w.heap.size s m L w _ HI.out HB.out HPF.out).mono ?_
       rintro e w2 ⟨v0, rfl, ho, hi, hb⟩
       obtain ⟨Ap, cp, rfl⟩ := Kd.R_slice ho
       have HB2 := Lib.hid hb
       have HI2 := Lib.hid hi
       have HR2 := Lib.hid ho
       clear ho hi hb HI HB)
    | (go_at_call 25
       with_reducible refine (spec_l03Next.calls kf w.heap.size s m Ap cp L (nextQ m L) w _ HI2.out HB2.out (fun W_ hk => (Kd.R_reads' (Kd.R_keep HR2.out hk (fun k hk => hk))).2.2) (Kd.R_reads' HR2.out).2.1 HNX.out).mono ?_
       rintro e wz ⟨v9, rfl, hS, hi, hb, hk⟩
       have HP := Lib.hid (Kd.R_reads' (Kd.R_keep HR2.out hk (fun k hk => hk))).2.2
       obtain ⟨An, cn, rfl⟩ := Kd.R_slice (Kd.S_R hS)
       have HNR := Lib.hid (Kd.R_reads' (Kd.S_R hS)).2.2
       have HZ := Lib.hid hb
       clear hS hi hb hk HR2 HI2 HB2)
    | ((with_reducible refine gate_dst (N := 31) rfl ?_); refine Kd.R_lit KW _ 60 ?hg (N := 31) ?hd (xs := []) (inner := []) (ok := fun _ => True) (okp := fun _ => True) ?hr ?hp (fun _ hk => hk) trivial (Below.refl _ _) (Nat.le_refl _) (by simp) ?_; (case hd => rfl); (case hg => rfl); (case hr => first | (go_simp; done) | (go_simp; rfl)); (case hp => exact (Reps.none _ _)); intro v10 w3 ho hb hg_ hnew_; clear hg_ hnew_
       have W3 := Lib.hid ho
       have B3 := Lib.hid hb
       clear ho hb))
  have HNL := Lib.hid (show (nextQ m L).length = L.length + 1 by unfold nextQ; simp)
  go_loopw [11, 10] (fun k11 v10 W => ∃ k : Nat, k ≤ lg + 1 ∧ k11 = .int .i64 k ∧ RowKit.Hid (Kd.R KW 60 W wz.heap.size (fun _ => True) v10 ((List.range k).map (tabL L (nx m L) nn))) ∧ RowKit.Hid (Below wz.heap.size wz W)) (fun i _ _ => (lg + 1) - (intOf i).toNat)
  case atStart => exact ⟨0, Nat.zero_le _, rfl, W3, B3⟩
  case round =>
    clear W3 B3
    obtain ⟨k, hk, rfl, HW, HBW⟩ := hrel
    obtain ⟨Aw, cw, ev⟩ := Kd.R_slice HW.out
    rw [List.length_map, List.length_range] at ev
    subst ev
    by_cases hk2 : k ≤ lg
    · have hk3 : (k : Int) ≤ (lg : Int) := by omega
      obtain ⟨gs, hgs⟩ : ∃ gs, gs = wr.heap.size := ⟨_, rfl⟩
      have HGS := Lib.hid hgs
      clear hgs
      go_wp2_with (first
        | ((with_reducible refine gate_dst (N := 37) rfl ?_); refine Kd.R_lit KT _ 61 ?hg (N := 37) ?hd (xs := []) (inner := []) (ok := fun _ => True) (okp := fun _ => True) ?hr ?hp (fun _ hk => hk) trivial (Below.refl _ _) (Nat.le_refl _) (by simp) ?_; (case hd => rfl); (case hg => rfl); (case hr => first | (go_simp; done) | (go_simp; rfl)); (case hp => exact (Reps.none _ _)); intro v12 w4 ho hb hg_ hnew_; clear hg_ hnew_
           have T4 := Lib.hid (Kd.R_lower (Kd.R_mono (Kd.R_bound ho) (fun j hj => show gs ≤ j by rw [HGS.out]; exact hj.2.1)) (show wz.heap.size ≤ wr.heap.size from HBW.out.size))
           have W4 := Lib.hid (Kd.R_below (Kd.R_mono (Kd.R_bound HW.out) (fun j hj => show j < gs by rw [HGS.out]; exact hj.2.2.1)) hb)
           have B4 := Lib.hid (below_step HBW.out hb)
           have HG4 := Lib.hid (show wz.heap.size ≤ gs by rw [HGS.out]; exact HBW.out.size)
           have S4 := Lib.hid (show gs ≤ w4.heap.size by rw [HGS.out]; exact hb.size)
           clear ho hb))
      go_loopw [13, 12] (fun m13 v12 W => ∃ j : Nat, j ≤ nn + 1 ∧ m13 = .int .i64 j ∧ RowKit.Hid (Kd.R KT 61 W wz.heap.size (fun q => gs ≤ q) v12 ((List.range j).map (rowL L (nx m L) k))) ∧ RowKit.Hid (Kd.R KW 60 W wz.heap.size (fun q => q < gs) (.slice Aw k cw) ((List.range k).map (tabL L (nx m L) nn))) ∧ RowKit.Hid (Below wz.heap.size wz W ∧ gs ≤ W.heap.size)) (fun i _ _ => (nn + 1) - (intOf i).toNat)
      case atStart => exact ⟨0, Nat.zero_le _, rfl, T4, W4, Lib.hid ⟨B4.out, S4.out⟩⟩
      case round =>
        clear T4 W4 B4 S4
        obtain ⟨j, hj, rfl, HT, HW2, HB⟩ := hrel
        by_cases hj2 : j ≤ nn
        · have hj3 : (j : Int) ≤ (nn : Int) := by omega
          obtain ⟨gr, hgr⟩ : ∃ gr, gr = wr.heap.size := ⟨_, rfl⟩
          have HGR := Lib.hid hgr
          clear hgr
          go_wp2_with (first
            | ((with_reducible refine gate_dst (N := 46) rfl ?_); refine Kd.R_make KR _ 2 rfl (N := 46) rfl 61 _ _ rfl ((L.length : Int) + 1) rfl rfl Try.underlying61 (.int .i64 0) 8 info2' rfl (by decide) (by omega) 0 (ok := fun _ => True) (okp := fun _ => True) rfl (fun _ hk => hk) trivial (by omega) (by omega) (Below.refl _ _) (Nat.le_refl _) ?_; intro v14 w5 ho hb hg_ hnew_; clear hg_ hnew_
               rw [show ((L.length : Int) + 1).toNat = L.length + 1 by omega] at ho
               obtain ⟨gb, cap, ev, gb0, gl, _⟩ := Kd.R_form ho (by simp)
               rw [List.length_replicate] at ev
               subst ev
               have I5 := Lib.hid (show Rows gs gr gb cap (L.length + 1) wz u12 (.slice Aw k cw) ((List.range k).map (tabL L (nx m L) nn)) ((List.range j).map (rowL L (nx m L) k)) (rowTo L (nx m L) k j 0) w5 from ⟨Kd.R_lower (Kd.R_mono (Kd.R_bound ho) (fun q hq => show gr ≤ q by rw [HGR.out]; exact hq.2.1)) HB.out.1.size, Kd.R_below (Kd.R_mono (Kd.R_bound HT.out) (fun q hq => show gs ≤ q ∧ q < gr from ⟨hq.1, by rw [HGR.out]; exact hq.2.2.1⟩)) hb, Kd.R_below HW2.out hb, below_step HB.out.1 hb, ⟨by rw [HGR.out]; exact HB.out.2, by rw [HGR.out]; exact gb0, HG4.out⟩⟩)
               clear ho hb gb0 gl))
          go_loopw [15] (fun i W => ∃ q : Nat, q ≤ L.length + 1 ∧ i = .int .i64 q ∧ RowKit.Hid (Rows gs gr gb cap (L.length + 1) wz u12 (.slice Aw k cw) ((List.range k).map (tabL L (nx m L) nn)) ((List.range j).map (rowL L (nx m L) k)) (rowTo L (nx m L) k j q) W)) (fun i _ => (L.length + 1) - (intOf i).toNat)
          case atStart => exact ⟨0, Nat.zero_le _, rfl, I5⟩
          case round =>
            clear I5 HT HW2 HB
            obtain ⟨q, hq, rfl, HI⟩ := hrel
            by_cases hq2 : q ≤ L.length
            · have hq3 : (q : Int) ≤ (L.length : Int) := by omega
              have hq4 : (q : Int) < (L.length : Int) + 1 := by omega
              have hq5 : (q : Int) < ((L.length + 1 : Nat) : Int) := by omega
              go_upto_if 54 with (fail)
              go_cut [] (fun wx => RowKit.Hid (Rows gs gr gb cap (L.length + 1) wz u12 (.slice Aw k cw) ((List.range k).map (tabL L (nx m L) nn)) ((List.range j).map (rowL L (nx m L) k)) (rowAt L (nx m L) k j q 0) wx))
              case first =>
                by_cases hj0 : j = 0
                · have t1 : ((j : Int) == 0) = true := by rw [hj0]; rfl
                  obtain ⟨cc, cf⟩ := HI.out.cell q (by omega)
                  have HJ0 := Lib.hid hj0
                  clear hj0
                  rw [t1]
                  go_wp2
                  go_meet
                  exact Lib.hid (HI.out.put q 1 (by rw [HJ0.out]; exact rowTo_one k q hq2))
                · have t1 : ((j : Int) == 0) = false := beq_eq_false_iff_ne.2 (by omega)
                  have HE := Lib.hid (rowTo_start (L := L) (g := nx m L) k j q hq2 hj0)
                  clear hj0
                  rw [t1]
                  go_wp2
                  go_meet
                  exact Lib.hid (HE.out ▸ HI.out)
              case rest =>
              have HI0 := hcut
              clear HI hcut
              go_wp2
              go_loopw [16] (fun i W => ∃ p : Nat, p ≤ L.length ∧ i = .int .i64 p ∧ RowKit.Hid (k = 0 → p = 0) ∧ RowKit.Hid (Rows gs gr gb cap (L.length + 1) wz u12 (.slice Aw k cw) ((List.range k).map (tabL L (nx m L) nn)) ((List.range j).map (rowL L (nx m L) k)) (rowAt L (nx m L) k j q p) W)) (fun i _ => L.length - (intOf i).toNat)
              case atStart => exact ⟨0, Nat.zero_le _, rfl, Lib.hid (fun _ => rfl), HI0⟩
              case round =>
                clear HI0
                obtain ⟨p, hp, rfl, HK0, HI⟩ := hrel
                by_cases hp2 : p < L.length
                rotate_left
                · have hp3 : ¬ (p : Int) < (L.length : Int) := by omega
                  have HE := Lib.hid (rowAt_end (L := L) (g := nx m L) k j q p (sum_end HL.out HK0.out (fun _ => by omega)) hq2)
                  clear hp2
                  go_wp2
                  go_roundw
                  case measure => simp only [intOf]; omega
                  case rel => exact ⟨q + 1, by omega, by go_num, Lib.hid (HE.out ▸ HI.out)⟩
                · have hp3 : (p : Int) < (L.length : Int) := by omega
                  by_cases hk0 : k = 0
                  · have hk5 : ¬ (0 : Int) < (k : Int) := by omega
                    have hk6 : decide ((k : Int) > 0) = false := decide_eq_false hk5
                    have HE := Lib.hid (rowAt_end (L := L) (g := nx m L) k j q p (sum_end HL.out HK0.out (fun h => absurd hk0 h)) hq2)
                    clear hk0 hp2
                    go_wp2
                    go_roundw
                    case measure => simp only [intOf]; omega
                    case rel => exact ⟨q + 1, by omega, by go_num, Lib.hid (HE.out ▸ HI.out)⟩
                  · have hk5 : (0 : Int) < (k : Int) := by omega
                    have hk6 : decide ((k : Int) > 0) = true := decide_eq_true hk5
                    obtain ⟨adp, ep, px0, px1⟩ := at_T46 (Kd.C_below HP.out HI.out.b) (p : Int) (by omega) (by omega)
                    simp only [Int.toNat_natCast] at px0 px1
                    have hsz := HL.out.siz p hp2
                    have hvl := HL.out.val p hp2
                    obtain ⟨tx, htx⟩ : ∃ t, t = (rd_T46 L (p : Int)).f0 := ⟨_, rfl⟩
                    obtain ⟨v, hv⟩ : ∃ v, v = (rd_T46 L (p : Int)).f1 := ⟨_, rfl⟩
                    rw [← htx] at px0 hsz
                    rw [← hv] at px1 hvl
                    have HZL := Lib.hid (show zL L p = tx.size by rw [htx]; rfl)
                    have HVL := Lib.hid (show vL L p = v by rw [hv]; rfl)
                    subst ep
                    clear htx hv
                    obtain ⟨adn, en, A2, c2, n0, hCb⟩ := at_row (Kd.C_below HNR.out HI.out.b) q (by rw [HNL.out]; omega)
                    rw [nextQ_row m L q (by rw [HNL.out]; omega), nextQ_row_len] at n0 hCb
                    obtain ⟨adb, eb, b0⟩ := Kd.at_bool hCb (p : Int) (by omega) (by omega)
                    rw [nextQ_rd m L q p hp2, Int.toNat_natCast] at b0
                    subst en
                    subst eb
                    clear hCb
                    obtain ⟨gg, hgg⟩ : ∃ b, nx m L q p = b := ⟨_, rfl⟩
                    rw [hgg] at b0
                    have HGG := Lib.hid hgg
                    have hNL := HNL.out
                    clear hgg
                    have hq6 : (q : Int) < ((nextQ m L).length : Int) := by rw [hNL]; omega
                    go_upto_region 25 with (fail)
                    cases gg with
                    | false =>
                      have HS := Lib.hid (rowAt_same (L := L) (g := nx m L) k j q p (by rw [sumTo, if_neg (fun h => by rw [HGG.out] at h; cases h.1)]))
                      go_wp2
                      go_roundw
                      case measure => simp only [intOf]; omega
                      case rel => exact ⟨p + 1, by omega, by go_num, Lib.hid (fun h => absurd h hk0), Lib.hid (HS.out ▸ HI.out)⟩
                    | true =>
                      by_cases hz2 : tx.size ≤ k
                      rotate_left
                      · have hz3 : ¬ (0 : Int) ≤ (k : Int) - (tx.size : Int) := by omega
                        have hz4 : decide ((k : Int) - (tx.size : Int) ≥ 0) = false := decide_eq_false hz3
                        have HS := Lib.hid (rowAt_same (L := L) (g := nx m L) k j q p (by rw [sumTo, if_neg (fun h => by have h1 := h.2.1; rw [HZL.out] at h1; omega)]))
                        go_wp2
                        go_roundw
                        case measure => simp only [intOf]; omega
                        case rel => exact ⟨p + 1, by omega, by go_num, Lib.hid (fun h => absurd h hk0), Lib.hid (HS.out ▸ HI.out)⟩
                      · have hz3 : (0 : Int) ≤ (k : Int) - (tx.size : Int) := by omega
                        have hz4 : decide ((k : Int) - (tx.size : Int) ≥ 0) = true := decide_eq_true hz3
                        by_cases hv2 : v ≤ (j : Int)
                        rotate_left
                        · have hv3 : decide (v ≤ (j : Int)) = false := decide_eq_false hv2
                          have HS := Lib.hid (rowAt_same (L := L) (g := nx m L) k j q p (by rw [sumTo, if_neg (fun h => by have h1 := h.2.2; rw [HVL.out] at h1; omega)]))
                          go_wp2
                          go_roundw
                          case measure => simp only [intOf]; omega
                          case rel => exact ⟨p + 1, by omega, by go_num, Lib.hid (fun h => absurd h hk0), Lib.hid (HS.out ▸ HI.out)⟩
                        · have hv3 : decide (v ≤ (j : Int)) = true := decide_eq_true hv2
                          obtain ⟨kz, hkz⟩ : ∃ kz : Nat, (k : Int) - (tx.size : Int) = (kz : Int) := ⟨k - tx.size, by omega⟩
                          obtain ⟨jv, hjv⟩ : ∃ jv : Nat, (j : Int) - v = (jv : Int) := ⟨((j : Int) - v).toNat, by omega⟩
                          obtain ⟨adw, ew, A3, c3, y0, hC3⟩ := at_row (Kd.R_reads' HI.out.w).2.2 kz (by simp; omega)
                          simp only [List.getElem_map, List.getElem_range] at y0 hC3
                          rw [tabL_len] at y0 hC3
                          obtain ⟨adt, et, A4, c4, y1, hC4⟩ := at_row hC3 jv (by rw [tabL_len]; omega)
                          have et2 : (tabL L (nx m L) nn kz)[jv]'(by rw [tabL_len]; omega) = rowL L (nx m L) kz jv := by unfold tabL; simp
                          rw [et2, rowL_len] at y1 hC4
                          obtain ⟨adr, er, y2⟩ := Kd.at_int hC4 (p : Int) (by omega) (by omega)
                          rw [rowL_get kz jv p (by omega), Int.toNat_natCast] at y2
                          subst ew
                          subst et
                          subst er
                          obtain ⟨x, hx⟩ : ∃ x, x = cnt L (nx m L) kz (jv : Int) p := ⟨_, rfl⟩
                          rw [← hx] at y2
                          obtain ⟨cc, cf⟩ := HI.out.cell q (by omega)
                          rw [rowAt_get k j q p hq2] at cc
                          obtain ⟨sa, hsa⟩ : ∃ x, x = sumTo L (nx m L) (cnt L (nx m L)) k (j : Int) q p := ⟨_, rfl⟩
                          rw [← hsa] at cc
                          have HSUM := Lib.hid (show wrap64 (sa + x) = sumTo L (nx m L) (cnt L (nx m L)) k (j : Int) q (p + 1) by
                            rw [sumTo, if_pos ⟨HGG.out, by rw [HZL.out]; exact hz2, by rw [HVL.out]; exact hv2⟩, HZL.out, HVL.out, hsa, hx, hjv, show k - tx.size = kz by omega])
                          have hkz3 : (kz : Int) < (k : Int) := by omega
                          have hjn : (jv : Int) < ((nn + 1 : Nat) : Int) := by omega
                          have hjn2 : (jv : Int) < (nn : Int) + 1 := by omega
                          have hpl : (p : Int) < ((L.length + 1 : Nat) : Int) := by omega
                          have hpl2 : (p : Int) < (L.length : Int) + 1 := by omega
                          have e0 := bcell (below_drew1 (Below.refl wr.heap.size wr)) cc
                          have e1 := bcell (below_drew1 (Below.refl wr.heap.size wr)) y0
                          have e2 := bcell (below_drew1 (Below.refl wr.heap.size wr)) y1
                          have e3 := bcell (below_drew1 (Below.refl wr.heap.size wr)) y2
                          have e4 := bcell (below_drew1 (Below.refl wr.heap.size wr)) px1
                          have HIq := Lib.hid (HI.out.step (below_drew1 (Below.refl wr.heap.size wr)))
                          have hq7 : q < L.length + 1 := by omega
                          have hwj : wrap64 (jv : Int) = (jv : Int) := wrap_id (by omega) (by omega)
                          clear hx hsa hC3 hC4 et2 cc cf y2
                          go_wp2
                          clear y0 y1 px0 px1 n0 b0 HI
                          refine start_ (n := 23) (S := fun w' => Below (wr).drew.heap.size (wr).drew w') (ds := [22]) #[false, false, false, false, false, false, false, false, false, false, false, false, false, false, false, false, false, false, false, false, false, false, false] (by kernel_rfl) rfl rfl (Below.refl _ _) (fun hHeld => ?_)
                          generalize wr.drew = wq at e0 e1 e2 e3 e4 HIq hHeld ⊢
                          refine pure_ (i := 0) (N := some 96) (v := ?_) (a' := ?_) #[true, false, false, false, false, false, false, false, false, false, false, false, false, false, false, false, false, false, false, false, false, false, false] rfl rfl (by kernel_rfl) (fun _ _ _ h => h) (Or.inl ⟨by rfl, ?_⟩) ?_ ?_
                          rotate_left
                          · intro w'
                            go_simp
                            with_reducible rfl
                          rotate_left
                          · simp only [Act.put, List.setIfInBounds_toArray, List.set_cons_zero, List.set_cons_succ, i64_w, i32_w]
                            rfl
                          refine pure_ (i := 1) (N := some 97) (v := ?_) (a' := ?_) #[true, true, false, false, false, false, false, false, false, false, false, false, false, false, false, false, false, false, false, false, false, false, false] rfl rfl (by kernel_rfl) (fun _ _ _ h => h) (Or.inl ⟨by rfl, ?_⟩) ?_ ?_
                          rotate_left
                          · intro w'
                            go_simp
                            with_reducible rfl
                          rotate_left
                          · simp only [Act.put, List.setIfInBounds_toArray, List.set_cons_zero, List.set_cons_succ, i64_w, i32_w]
                            rfl
                          refine pure_ (i := 2) (N := some 98) (v := ?_) (a' := ?_) #[true, true, true, false, false, false, false, false, false, false, false, false, false, false, false, false, false, false, false, false, false, false, false] rfl rfl (by kernel_rfl) (fun _ _ _ h => h) (Or.inl ⟨by rfl, ?_⟩) ?_ ?_
                          rotate_left
                          · intro w'
                            go_simp
                            with_reducible rfl
                          rotate_left
                          · simp only [Act.put, List.setIfInBounds_toArray, List.set_cons_zero, List.set_cons_succ, i64_w, i32_w]
                            rfl
                          refine take_ (i := 3) (N := some 99) (v := ?_) (a' := ?_) #[true, true, true, true, false, false, false, false, false, false, false, false, false, false, false, false, false, false, false, false, false, false, false] rfl rfl (by kernel_rfl) (fun _ _ _ h => h) (Or.inl ⟨by rfl, ?_⟩) hHeld ?_ ?_
                          rotate_left
                          · rintro w' hS
                            have q_e0 := bcell hS e0
                            have q_e1 := bcell hS e1
                            have q_e2 := bcell hS e2
                            have q_e3 := bcell hS e3
                            have q_e4 := bcell hS e4
                            go_simp
                            with_reducible rfl
                          rotate_left
                          · simp only [Act.put, List.setIfInBounds_toArray, List.set_cons_zero, List.set_cons_succ, i64_w, i32_w]
                            rfl
                          refine pure_ (i := 4) (N := some 100) (v := ?_) (a' := ?_) #[true, true, true, true, true, false, false, false, false, false, false, false, false, false, false, false, false, false, false, false, false, false, false] rfl rfl (by kernel_rfl) (fun _ _ _ h => h) (Or.inl ⟨by rfl, ?_⟩) ?_ ?_
                          rotate_left
                          · intro w'
                            go_simp
                            with_reducible rfl
                          rotate_left
                          · simp only [Act.put, List.setIfInBounds_toArray, List.set_cons_zero, List.set_cons_succ, i64_w, i32_w]
                            rfl
                          refine pure_ (i := 5) (N := some 101) (v := ?_) (a' := ?_) #[true, true, true, true, true, true, false, false, false, false, false, false, false, false, false, false, false, false, false, false, false, false, false] rfl rfl (by kernel_rfl) (fun _ _ _ h => h) (Or.inl ⟨by rfl, ?_⟩) ?_ ?_
                          rotate_left
                          · intro w'
                            go_simp
                            with_reducible rfl
                          rotate_left
                          · simp only [Act.put, List.setIfInBounds_toArray, List.set_cons_zero, List.set_cons_succ, i64_w, i32_w]
                            rfl
                          refine pure_ (i := 6) (N := some 102) (v := ?_) (a' := ?_) #[true, true, true, true, true, true, true, false, false, false, false, false, false, false, false, false, false, false, false, false, false, false, false] rfl rfl (by kernel_rfl) (fun _ _ _ h => h) (Or.inl ⟨by rfl, ?_⟩) ?_ ?_
                          rotate_left
                          · intro w'
                            go_simp
                            with_reducible rfl
                          rotate_left
                          · simp only [Act.put, List.setIfInBounds_toArray, List.set_cons_zero, List.set_cons_succ, i64_w, i32_w]
                            rfl
                          refine take_ (i := 7) (N := some 103) (v := ?_) (a' := ?_) #[true, true, true, true, true, true, true, true, false, false, false, false, false, false, false, false, false, false, false, false, false, false, false] rfl rfl (by kernel_rfl) (fun _ _ _ h => h) (Or.inl ⟨by rfl, ?_⟩) hHeld ?_ ?_
                          rotate_left
                          · rintro w' hS
                            have q_e0 := bcell hS e0
                            have q_e1 := bcell hS e1
                            have q_e2 := bcell hS e2
                            have q_e3 := bcell hS e3
                            have q_e4 := bcell hS e4
                            go_simp
                            with_reducible rfl
                          rotate_left
                          · simp only [Act.put, List.setIfInBounds_toArray, List.set_cons_zero, List.set_cons_succ, i64_w, i32_w]
                            rfl
                          refine pure_ (i := 8) (N := some 104) (v := ?_) (a' := ?_) #[true, true, true, true, true, true, true, true, true, false, false, false, false, false, false, false, false, false, false, false, false, false, false] rfl rfl (by kernel_rfl) (fun _ _ _ h => h) (Or.inl ⟨by rfl, ?_⟩) ?_ ?_
                          rotate_left
                          · intro w'
                            go_simp
                            with_reducible rfl
                          rotate_left
                          · simp only [Act.put, List.setIfInBounds_toArray, List.set_cons_zero, List.set_cons_succ, i64_w, i32_w]
                            rfl
                          refine pure_ (i := 9) (N := some 105) (v := ?_) (a' := ?_) #[true, true, true, true, true, true, true, true, true, true, false, false, false, false, false, false, false, false, false, false, false, false, false] rfl rfl (by kernel_rfl) (fun _ _ _ h => h) (Or.inl ⟨by rfl, ?_⟩) ?_ ?_
                          rotate_left
                          · intro w'
                            go_simp
                            with_reducible rfl
                          rotate_left
                          · simp only [Act.put, List.setIfInBounds_toArray, List.set_cons_zero, List.set_cons_succ, i64_w, i32_w]
                            rfl
                          refine pure_ (i := 10) (N := some 106) (v := ?_) (a' := ?_) #[true, true, true, true, true, true, true, true, true, true, true, false, false, false, false, false, false, false, false, false, false, false, false] rfl rfl (by kernel_rfl) (fun _ _ _ h => h) (Or.inl ⟨by rfl, ?_⟩) ?_ ?_
                          rotate_left
                          · intro w'
                            go_simp
                            with_reducible rfl
                          rotate_left
                          · simp only [Act.put, List.setIfInBounds_toArray, List.set_cons_zero, List.set_cons_succ, i64_w, i32_w]
                            rfl
                          refine pure_ (i := 11) (N := some 107) (v := ?_) (a' := ?_) #[true, true, true, true, true, true, true, true, true, true, true, true, false, false, false, false, false, false, false, false, false, false, false] rfl rfl (by kernel_rfl) (fun _ _ _ h => h) (Or.inl ⟨by rfl, ?_⟩) ?_ ?_
                          rotate_left
                          · intro w'
                            go_simp
                            with_reducible rfl
                          rotate_left
                          · simp only [Act.put, List.setIfInBounds_toArray, List.set_cons_zero, List.set_cons_succ, i64_w, i32_w]
                            rfl
                          refine pure_ (i := 12) (N := some 108) (v := ?_) (a' := ?_) #[true, true, true, true, true, true, true, true, true, true, true, true, true, false, false, false, false, false, false, false, false, false, false] rfl rfl (by kernel_rfl) (fun _ _ _ h => h) (Or.inl ⟨by rfl, ?_⟩) ?_ ?_
                          rotate_left
                          · intro w'
                            go_simp
                            with_reducible rfl
                          rotate_left
                          · simp only [Act.put, List.setIfInBounds_toArray, List.set_cons_zero, List.set_cons_succ, i64_w, i32_w]
                            rfl
                          refine take_ (i := 13) (N := some 109) (v := ?_) (a' := ?_) #[true, true, true, true, true, true, true, true, true, true, true, true, true, true, false, false, false, false, false, false, false, false, false] rfl rfl (by kernel_rfl) (fun _ _ _ h => h) (Or.inl ⟨by rfl, ?_⟩) hHeld ?_ ?_
                          rotate_left
                          · rintro w' hS
                            have q_e0 := bcell hS e0
                            have q_e1 := bcell hS e1
                            have q_e2 := bcell hS e2
                            have q_e3 := bcell hS e3
                            have q_e4 := bcell hS e4
                            go_simp
                            with_reducible rfl
                          rotate_left
                          · simp only [Act.put, List.setIfInBounds_toArray, List.set_cons_zero, List.set_cons_succ, i64_w, i32_w]
                            rfl
                          refine pure_ (i := 14) (N := some 110) (v := ?_) (a' := ?_) #[true, true, true, true, true, true, true, true, true, true, true, true, true, true, true, false, false, false, false, false, false, false, false] rfl rfl (by kernel_rfl) (fun _ _ _ h => h) (Or.inl ⟨by rfl, ?_⟩) ?_ ?_
                          rotate_left
                          · intro w'
                            go_simp
                            with_reducible rfl
                          rotate_left
                          · simp only [Act.put, List.setIfInBounds_toArray, List.set_cons_zero, List.set_cons_succ, i64_w, i32_w]
                            rfl
                          refine pure_ (i := 15) (N := some 111) (v := ?_) (a' := ?_) #[true, true, true, true, true, true, true, true, true, true, true, true, true, true, true, true, false, false, false, false, false, false, false] rfl rfl (by kernel_rfl) (fun _ _ _ h => h) (Or.inl ⟨by rfl, ?_⟩) ?_ ?_
                          rotate_left
                          · intro w'
                            go_simp
                            with_reducible rfl
                          rotate_left
                          · simp only [Act.put, List.setIfInBounds_toArray, List.set_cons_zero, List.set_cons_succ, i64_w, i32_w]
                            rfl
                          refine take_ (i := 16) (N := some 112) (v := ?_) (a' := ?_) #[true, true, true, true, true, true, true, true, true, true, true, true, true, true, true, true, true, false, false, false, false, false, false] rfl rfl (by kernel_rfl) (fun _ _ _ h => h) (Or.inl ⟨by rfl, ?_⟩) hHeld ?_ ?_
                          rotate_left
                          · rintro w' hS
                            have q_e0 := bcell hS e0
                            have q_e1 := bcell hS e1
                            have q_e2 := bcell hS e2
                            have q_e3 := bcell hS e3
                            have q_e4 := bcell hS e4
                            go_simp
                            with_reducible rfl
                          rotate_left
                          · simp only [Act.put, List.setIfInBounds_toArray, List.set_cons_zero, List.set_cons_succ, i64_w, i32_w]
                            rfl
                          refine pure_ (i := 17) (N := some 113) (v := ?_) (a' := ?_) #[true, true, true, true, true, true, true, true, true, true, true, true, true, true, true, true, true, true, false, false, false, false, false] rfl rfl (by kernel_rfl) (fun _ _ _ h => h) (Or.inl ⟨by rfl, ?_⟩) ?_ ?_
                          rotate_left
                          · intro w'
                            go_simp
                            with_reducible rfl
                          rotate_left
                          · simp only [Act.put, List.setIfInBounds_toArray, List.set_cons_zero, List.set_cons_succ, i64_w, i32_w]
                            rfl
                          refine pure_ (i := 18) (N := some 114) (v := ?_) (a' := ?_) #[true, true, true, true, true, true, true, true, true, true, true, true, true, true, true, true, true, true, true, false, false, false, false] rfl rfl (by kernel_rfl) (fun _ _ _ h => h) (Or.inl ⟨by rfl, ?_⟩) ?_ ?_
                          rotate_left
                          · intro w'
                            go_simp
                            with_reducible rfl
                          rotate_left
                          · simp only [Act.put, List.setIfInBounds_toArray, List.set_cons_zero, List.set_cons_succ, i64_w, i32_w]
                            rfl
                          refine take_ (i := 19) (N := some 115) (v := ?_) (a' := ?_) #[true, true, true, true, true, true, true, true, true, true, true, true, true, true, true, true, true, true, true, true, false, false, false] rfl rfl (by kernel_rfl) (fun _ _ _ h => h) (Or.inl ⟨by rfl, ?_⟩) hHeld ?_ ?_
                          rotate_left
                          · rintro w' hS
                            have q_e0 := bcell hS e0
                            have q_e1 := bcell hS e1
                            have q_e2 := bcell hS e2
                            have q_e3 := bcell hS e3
                            have q_e4 := bcell hS e4
                            go_simp
                            with_reducible rfl
                          rotate_left
                          · simp only [Act.put, List.setIfInBounds_toArray, List.set_cons_zero, List.set_cons_succ, i64_w, i32_w]
                            rfl
                          refine pure_ (i := 20) (N := some 116) (v := ?_) (a' := ?_) #[true, true, true, true, true, true, true, true, true, true, true, true, true, true, true, true, true, true, true, true, true, false, false] rfl rfl (by kernel_rfl) (fun _ _ _ h => h) (Or.inl ⟨by rfl, ?_⟩) ?_ ?_
                          rotate_left
                          · intro w'
                            go_simp
                            with_reducible rfl
                          rotate_left
                          · simp only [Act.put, List.setIfInBounds_toArray, List.set_cons_zero, List.set_cons_succ, i64_w, i32_w]
                            rfl
                          refine pure_ (i := 21) (N := some 117) (v := ?_) (a' := ?_) #[true, true, true, true, true, true, true, true, true, true, true, true, true, true, true, true, true, true, true, true, true, true, false] rfl rfl (by kernel_rfl) (fun _ _ _ h => h) (Or.inl ⟨by rfl, ?_⟩) ?_ ?_
                          rotate_left
                          · intro w'
                            go_simp
                            with_reducible rfl
                          rotate_left
                          · simp only [Act.put, List.setIfInBounds_toArray, List.set_cons_zero, List.set_cons_succ, i64_w, i32_w]
                            rfl
                          refine last_ (i := 22) (N := none) #[true, true, true, true, true, true, true, true, true, true, true, true, true, true, true, true, true, true, true, true, true, true, true] rfl rfl (by kernel_rfl) (by decide) (fun K hK => ?_)
                          refine skip_ (w1 := ?wn) (by rfl) rfl ?hrun ?_
                          case hrun =>
                            have IW := HIq.out.step hHeld
                            obtain ⟨cc5, cf5⟩ := IW.cell q hq7
                            clear IW
                            go_simp
                            with_reducible rfl
                          refine hK.out _ _ ?_
                          clear hK K
                          refine done_ (by kernel_rfl) ?_
                          clear hwj
                          have HIw := Lib.hid (HIq.out.step hHeld)
                          clear hHeld
                          go_wp2
                          go_roundw
                          case measure => simp only [intOf]; omega
                          case rel => exact ⟨p + 1, by omega, by go_num, Lib.hid (fun h => absurd h hk0), Lib.hid (HIw.out.put q _ (rowAt_set k j q p _ HSUM.out))⟩
            · have hq3 : ¬ (q : Int) ≤ (L.length : Int) := by omega
              have hqe : q = L.length + 1 := by omega
              have HR := Lib.hid (show Kd.R KR 2 wr wz.heap.size (fun b => gr ≤ b) (.slice (some ⟨gb, 0, none⟩) (L.length + 1) cap) (rowL L (nx m L) k j) by have h1 := HI.out.r; rw [hqe, rowTo_all] at h1; exact h1)
              have HGB := Lib.hid (Kd.R_lt HI.out.r gb rfl)
              clear hqe hq2 hq
              go_wp2_with (first
                | ((with_reducible refine gate_builtin (b := .append) (xs := #[.tmp 118, .tmp 120]) rfl ?_); at_builtin; refine Kd.R_append KT (w0 := wz) wz.heap.size rfl (.tmp 118) (.tmp 120) 60 61 (.slice none 0 0) 24 rfl Try.underlying60 info61 rfl (by decide) (by omega) u12 ((List.range j).map (rowL L (nx m L) k)) (rowL L (nx m L) k j) [.slice (some ⟨gb, 0, none⟩) (L.length + 1) cap] (fun b => gs ≤ b) (fun b => gr ≤ b) ?hS ?hX ?aP ?aK ?aF ?aO ?aB ?aS ?aL ?_; (case hS => rfl); (case hX => first | rfl | (go_simp; done) | (simp [World.alloc]; done) | (go_simp; rfl)); (case aP => exact ⟨_, rfl, HR.out⟩); (case aK => exact fun b hb => ⟨Nat.le_trans HI.out.le.1 hb, fun he => by have := (HI.out.t.1 b he.symm).2; omega⟩); (case aF => exact fun b hb => by have h1 := HI.out.le; have h2 := HGB.out; omega); (case aO => exact Kd.R_mono HI.out.t (fun b hb => hb.1)); (case aB => exact HI.out.b); (case aS => exact HI.out.b.size); (case aL => simp; omega); intro v2 w6 ho hb hg hat
                   have T6 := Lib.hid (show Kd.R KT 61 w6 wz.heap.size (fun b => gs ≤ b) v2 ((List.range (j + 1)).map (rowL L (nx m L) k)) by rw [List.range_succ, List.map_append]; exact ho)
                   have W6 := Lib.hid (Kd.R_grown HI.out.w hg (fun b hbk he => by have := (HI.out.t.1 b he.symm).1; omega))
                   have B6 := Lib.hid (show Below wz.heap.size wz w6 ∧ gs ≤ w6.heap.size from ⟨hb, by have h1 := HI.out.le; have h2 := HGB.out; have h3 := hg.size; omega⟩)
                   clear ho hb hg hat HI HR))
              go_roundw
              case measure => simp only [intOf]; omega
              case rel => exact ⟨j + 1, by omega, by go_num, T6, W6, B6⟩
        · have hj3 : ¬ (j : Int) ≤ (nn : Int) := by omega
          have hje : j = nn + 1 := by omega
          obtain ⟨At, ct, ev⟩ := Kd.R_slice HT.out
          rw [List.length_map, List.length_range] at ev
          subst ev
          have HR := Lib.hid (show Kd.R KT 61 wr wz.heap.size (fun b => gs ≤ b) (.slice At j ct) (tabL L (nx m L) nn k) by have h1 := HT.out; unfold tabL; rw [← hje]; exact h1)
          clear hje hj2 hj
          go_wp2_with (first
            | ((with_reducible refine gate_builtin (b := .append) (xs := #[.tmp 122, .tmp 124]) rfl ?_); at_builtin; refine Kd.R_append KW (w0 := wz) wz.heap.size rfl (.tmp 122) (.tmp 124) 59 60 (.slice none 0 0) 24 rfl Try.underlying59 info60 rfl (by decide) (by omega) (.slice Aw k cw) ((List.range k).map (tabL L (nx m L) nn)) (tabL L (nx m L) nn k) [.slice At j ct] (fun _ => True) (fun b => gs ≤ b) ?hS ?hX ?aP ?aK ?aF ?aO ?aB ?aS ?aL ?_; (case hS => rfl); (case hX => first | rfl | (go_simp; done) | (simp [World.alloc]; done) | (go_simp; rfl)); (case aP => exact ⟨_, rfl, HR.out⟩); (case aK => exact fun b hb => ⟨trivial, fun he => by have := HW2.out.1 b he.symm; omega⟩); (case aF => exact fun _ _ => trivial); (case aO => exact Kd.R_mono HW2.out (fun _ _ => trivial)); (case aB => exact HB.out.1); (case aS => exact HB.out.1.size); (case aL => simp; omega); intro v2 w6 ho hb hg hat
               have W6 := Lib.hid (show Kd.R KW 60 w6 wz.heap.size (fun _ => True) v2 ((List.range (k + 1)).map (tabL L (nx m L) nn)) by rw [List.range_succ, List.map_append]; exact ho)
               have B6 := Lib.hid hb
               clear ho hb hg hat HR))
          go_roundw
          case measure => simp only [intOf]; omega
          case rel => exact ⟨k + 1, by omega, by go_num, W6, B6⟩
    · have hk3 : ¬ (k : Int) ≤ (lg : Int) := by omega
      obtain rfl : k = lg + 1 := by omega
      obtain ⟨adw, ew, A3, c3, y0, hC3⟩ := at_row (Kd.R_reads' HW.out).2.2 lg (by simp)
      simp only [List.getElem_map, List.getElem_range] at y0 hC3
      rw [tabL_len] at y0 hC3
      obtain ⟨adt, et, A4, c4, y1, hC4⟩ := at_row hC3 nn (by rw [tabL_len]; omega)
      have et2 : (tabL L (nx m L) nn lg)[nn]'(by rw [tabL_len]; omega) = rowL L (nx m L) lg nn := by unfold tabL; simp
      rw [et2, rowL_len] at y1 hC4
      obtain ⟨adr, er, y2⟩ := Kd.at_int hC4 (L.length : Int) (by omega) (by omega)
      rw [rowL_get lg nn L.length (Nat.le_refl _), Int.toNat_natCast] at y2
      obtain ⟨hr1, hr2⟩ := Prod.mk.inj HRES.out
      rw [hr1] at y2
      subst hr2
      subst ew
      subst et
      subst er
      have hb1 : (lg : Int) < ((lg + 1 : Nat) : Int) := by omega
      have hb2 : (lg : Int) < (lg : Int) + 1 := by omega
      have hb3 : (nn : Int) < ((nn + 1 : Nat) : Int) := by omega
      have hb4 : (nn : Int) < (nn : Int) + 1 := by omega
      have hb5 : (L.length : Int) < ((L.length + 1 : Nat) : Int) := by omega
      have hb6 : (L.length : Int) < (L.length : Int) + 1 := by omega
      clear hr1 et2 hC3 hC4 hk2 hk
      go_wp2
      go_ret2
      exact ⟨rfl, below_step HZ.out HBW.out⟩
end Go.Proofs.Ytnacfljfalkonaa.Q
