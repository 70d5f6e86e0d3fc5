/- Face.by, spec.l01By, impl.PairBy, spec.PairBy, by hand. -/
import Derived.Test.YtjaamcedgdhilaaQhandValidFace
namespace Go.Proofs.Ytjaamcedgdhilaa.Q
open Go.RowKit Go.Proofs.YtjaamcedgdhilaaW.PrintWords Go.Proofs.YtjaamcedgdhilaaW.PrintLast Go.Proofs.YtjaamcedgdhilaaW.PrintMore
open Go.Proofs.Ytjaamcedgdhilaa.Pure
set_option linter.unusedVariables false
set_option linter.unusedSimpArgs false

/-- By of the first pair that is of a and b. -/
def byL (a b : Int) : List S46 → Int
  | [] => 0
  | p :: t => if (p.f0 == a && p.f1 == b) = true then p.f2 else byL a b t
theorem byL_end (a b : Int) (l : List S46) (k : Nat) (h : l.length ≤ k) : byL a b (l.drop k) = 0 := by rw [List.drop_of_length_le h]; rfl
theorem byL_at (a b : Int) (l : List S46) (k : Nat) (h : k < l.length) : byL a b (l.drop k) = if ((rd_T46 l (k : Nat)).f0 == a && (rd_T46 l (k : Nat)).f1 == b) = true then (rd_T46 l (k : Nat)).f2 else byL a b (l.drop (k + 1)) := by
  rw [List.drop_eq_getElem_cons h, byL, rd46_get _ _ h]

set_option maxHeartbeats 8000000 in
set_option maxRecDepth 100000 in
theorem implByC (ws : List Int) (hx : ws.length = 26) (sp gp : Int) (A : Option Addr) (c : Nat) (l : List S46) (a b : Int) (w : World) (hr : Kd.C k46 w A l.length l) (hc : l.length ≤ c) (hl : l.length ≤ 1048576) (hf : Fit ws sp gp l) :
    Calls Try.prog 35 #[.agg (FV ws sp gp (.slice A l.length c)), .int .u8 a, .int .u8 b] w fun e w' => e = .returned (.int .i64 (byL a b l)) ∧ Below w.heap.size w w' := by
  go_enter Try.func35, Try.ntmps35
  have HX := Lib.hid hx
  have HR := Lib.hid hr
  have HC := Lib.hid hc
  have HL := Lib.hid hl
  have HF := Lib.hid hf
  have H1 := Lib.hid (heap_alloc_new w (.cells (FV ws sp gp (.slice A l.length c)) 31))
  have HB := Lib.hid (below_alloc (Below.refl w.heap.size w) (.cells (FV ws sp gp (.slice A l.length c)) 31))
  have c28 := (blk_cell H1.out 28).trans (FV_28 ws hx _ _ _)
  clear hr hc hl hx hf
  go_wp2
  go_loopw [12] (fun i wr => ∃ k : Nat, k ≤ l.length ∧ i = .int .i64 k ∧ RowKit.Hid (byL a b l = byL a b (l.drop k)) ∧ RowKit.Hid (Below w.heap.size w wr)) (fun i _ => l.length - (intOf i).toNat)
  case atStart => exact ⟨0, Nat.zero_le _, rfl, Lib.hid rfl, HB⟩
  case round =>
    clear c28
    obtain ⟨k, hk, rfl, HA, HW⟩ := hrel
    have hbl : (l.length : Int) ≤ 1048576 := by have := HL.out; omega
    by_cases hlt : k < l.length
    · have hlt2 : (k : Int) < (l.length : Int) := by omega
      obtain ⟨ad, rfl, hx0, hx1, hx2⟩ := at_T46 (Kd.C_below HR.out HW.out) (k : Int) (by omega) (by omega)
      simp only [Int.toNat_natCast] at hx0 hx1 hx2
      have hfit := HF.out.pr k hlt
      have hwr : IntKind.i64.wrap (rd_T46 l (k : Nat)).f2 = (rd_T46 l (k : Nat)).f2 := IntWalk.i64_in _ (by omega)
      have hat := byL_at a b l k hlt
      have HB2 := Lib.hid (below_step HW.out (below_alloc (Below.refl wr.heap.size wr) (.cells #[.int .u8 (rd_T46 l (k : Nat)).f0, .int .u8 (rd_T46 l (k : Nat)).f1, .int .i8 (rd_T46 l (k : Nat)).f2] 46)))
      cases h0 : ((rd_T46 l (k : Nat)).f0 == a) with
      | false =>
        have E := Lib.hid (HA.out.trans (hat.trans (by rw [h0, if_neg (by simp)])))
        clear hat
        go_wp2
        go_roundw
        case measure => simp only [intOf]; omega
        case rel => exact ⟨k + 1, by omega, by go_num, E, HB2⟩
      | true =>
      cases h1 : ((rd_T46 l (k : Nat)).f1 == b) with
      | false =>
        have E := Lib.hid (HA.out.trans (hat.trans (by rw [h1, if_neg (by simp)])))
        clear hat
        go_wp2
        go_roundw
        case measure => simp only [intOf]; omega
        case rel => exact ⟨k + 1, by omega, by go_num, E, HB2⟩
      | true =>
        have E := Lib.hid (HA.out.trans (hat.trans (by rw [h0, h1, if_pos (by simp)])))
        clear hat
        go_wp2
        go_ret
        exact ⟨by rw [E.out]; rfl, HB2.out⟩
    · have hlt2 : ¬ (k : Int) < (l.length : Int) := by omega
      have E := Lib.hid (HA.out.trans (byL_end a b l k (by omega)))
      go_wp2
      go_ret
      exact ⟨by rw [E.out]; rfl, HW.out⟩

set_option maxHeartbeats 8000000 in
set_option maxRecDepth 100000 in
theorem specByC (ws : List Int) (hx : ws.length = 26) (sp gp : Int) (A : Option Addr) (c : Nat) (l : List S46) (g : Nat) (a b : Int) (w : World) (hg : w.heap[g]? = some (.cells (FV ws sp gp (.slice A l.length c)) 31)) (hr : Kd.C k46 w A l.length l) (hc : l.length ≤ c) (hl : l.length ≤ 1048576) (hf : Fit ws sp gp l) :
    Calls Try.prog 33 #[.pointer (some ⟨g, 0, none⟩), .int .u8 a, .int .u8 b] w fun e w' => e = .returned (.int .i64 (byL a b l)) ∧ Below w.heap.size w w' := by
  go_enter Try.func33, Try.ntmps33
  have HX := Lib.hid hx
  have HR := Lib.hid hr
  have HC := Lib.hid hc
  have HL := Lib.hid hl
  have HF := Lib.hid hf
  have HG := Lib.hid hg
  have HZ := Lib.hid (blk_lt hg)
  clear hr hc hl hx hf hg
  go_wp2
  go_loopw [7] (fun i wr => ∃ k : Nat, k ≤ l.length ∧ i = .int .i64 k ∧ RowKit.Hid (byL a b l = byL a b (l.drop k)) ∧ RowKit.Hid (Below w.heap.size w wr)) (fun i _ => l.length - (intOf i).toNat)
  case atStart => exact ⟨0, Nat.zero_le _, rfl, Lib.hid rfl, Lib.hid (Below.refl _ _)⟩
  case round =>
    obtain ⟨k, hk, rfl, HA, HW⟩ := hrel
    have hbl : (l.length : Int) ≤ 1048576 := by have := HL.out; omega
    have c28 := (blk_cell ((HW.out.block g HZ.out).trans HG.out) 28).trans (FV_28 ws HX.out _ _ _)
    by_cases hlt : k < l.length
    · have hlt2 : (k : Int) < (l.length : Int) := by omega
      obtain ⟨ad, rfl, hx0, hx1, hx2⟩ := at_T46 (Kd.C_below HR.out HW.out) (k : Int) (by omega) (by omega)
      simp only [Int.toNat_natCast] at hx0 hx1 hx2
      have hfit := HF.out.pr k hlt
      have hwr : IntKind.i64.wrap (rd_T46 l (k : Nat)).f2 = (rd_T46 l (k : Nat)).f2 := IntWalk.i64_in _ (by omega)
      have hat := byL_at a b l k hlt
      cases h0 : ((rd_T46 l (k : Nat)).f0 == a) with
      | false =>
        have E := Lib.hid (HA.out.trans (hat.trans (by rw [h0, if_neg (by simp)])))
        clear hat
        go_wp2
        go_roundw
        case measure => simp only [intOf]; omega
        case rel => exact ⟨k + 1, by omega, by go_num, E, HW⟩
      | true =>
      cases h1 : ((rd_T46 l (k : Nat)).f1 == b) with
      | false =>
        have E := Lib.hid (HA.out.trans (hat.trans (by rw [h1, if_neg (by simp)])))
        clear hat
        go_wp2
        go_roundw
        case measure => simp only [intOf]; omega
        case rel => exact ⟨k + 1, by omega, by go_num, E, HW⟩
      | true =>
        have E := Lib.hid (HA.out.trans (hat.trans (by rw [h0, h1, if_pos (by simp)])))
        clear hat
        go_wp2
        go_ret
        exact ⟨by rw [E.out]; rfl, HW.out⟩
    · have hlt2 : ¬ (k : Int) < (l.length : Int) := by omega
      have E := Lib.hid (HA.out.trans (byL_end a b l k (by omega)))
      go_wp2
      go_ret
      exact ⟨by rw [E.out]; rfl, HW.out⟩

def pairByR (ws : List Int) (sp gp : Int) (l : List S46) (a b : Int) : Int × Int := if validB ws sp gp l = true then (if (letB a && letB b) = true then (byL a b l, 0) else (0, 2)) else (0, 1)

set_option maxHeartbeats 8000000 in
set_option maxRecDepth 100000 in
theorem specPairByC (ws : List Int) (hx : ws.length = 26) (sp gp : Int) (A : Option Addr) (c : Nat) (l : List S46) (a b : Int) (w : World) (hr : Kd.C k46 w A l.length l) (hc : l.length ≤ c) (hl : l.length ≤ 1048576) (hf : Fit ws sp gp l) (r1 r2 : Int) (h : pairByR ws sp gp l a b = (r1, r2)) :
    Calls Try.prog 15 #[.agg (FV ws sp gp (.slice A l.length c)), .int .u8 a, .int .u8 b] w fun e w' => e = .returned (.tuple #[.int .i64 r1, .int .i64 r2]) ∧ Below w.heap.size w w' := by
  have H1 := Lib.hid (heap_alloc_new w (.cells (FV ws sp gp (.slice A l.length c)) 31))
  have HB := Lib.hid (below_alloc (Below.refl w.heap.size w) (.cells (FV ws sp gp (.slice A l.length c)) 31))
  have SZ := Lib.hid (show w.heap.size < (w.alloc (.cells (FV ws sp gp (.slice A l.length c)) 31)).heap.size by simp)
  have HS := Lib.hid (l01FaceC ws hx sp gp A c l w.heap.size _ H1.out (Kd.C_below hr HB.out) hc hl hf)
  have HY := Lib.hid (fun (w1 : World) (h1 : Below (w.alloc (.cells (FV ws sp gp (.slice A l.length c)) 31)).heap.size (w.alloc (.cells (FV ws sp gp (.slice A l.length c)) 31)) w1) => specByC ws hx sp gp A c l w.heap.size a b w1 ((h1.block w.heap.size SZ.out).trans H1.out) (Kd.C_below (Kd.C_below hr HB.out) h1) hc hl hf)
  obtain ⟨v, hv⟩ : ∃ v, validB ws sp gp l = v := ⟨_, rfl⟩
  obtain ⟨la, hla⟩ : ∃ v, letB a = v := ⟨_, rfl⟩
  obtain ⟨lb, hlb⟩ : ∃ v, letB b = v := ⟨_, rfl⟩
  have EV := Lib.hid hv
  have LA := Lib.hid hla
  have LB := Lib.hid hlb
  unfold pairByR at h
  rw [hv, hla, hlb] at h
  have EH := Lib.hid h
  clear hr hc hl hf hx h hv hla hlb
  go_enter Try.func15, Try.ntmps15
  cases v with
  | false =>
    obtain ⟨rfl, rfl⟩ := Prod.mk.inj ((if_neg (by simp)).symm.trans EH.out)
    clear EH
    go_wp2_with (first
      | (go_at_call 25
         with_reducible refine HS.out.mono ?_
         rintro e w1 ⟨rfl, hb⟩
         rw [EV.out]
         have B1 := Lib.hid (below_step HB.out hb)
         clear hb))
    refine bodyPost_ret (results_tmp2 rfl _ _ _) rfl ?_
    exact ⟨rfl, B1.out⟩
  | true =>
  have EH2 := Lib.hid ((if_pos (by simp)).symm.trans EH.out)
  clear EH
  cases la with
  | false =>
    obtain ⟨rfl, rfl⟩ := Prod.mk.inj ((if_neg (by simp)).symm.trans EH2.out)
    clear EH2
    go_wp2_with (first
      | (go_at_call 25
         with_reducible refine HS.out.mono ?_
         rintro e w1 ⟨rfl, hb⟩
         rw [EV.out]
         have B1 := Lib.hid (below_step HB.out hb)
         clear hb)
      | (go_at_call 32; with_reducible refine (spec_letter_is a false _ LA.out).mono ?_; rintro e w' ⟨rfl, rfl⟩))
    refine bodyPost_ret (results_tmp2 rfl _ _ _) rfl ?_
    exact ⟨rfl, B1.out⟩
  | true =>
  cases lb with
  | false =>
    obtain ⟨rfl, rfl⟩ := Prod.mk.inj ((if_neg (by simp)).symm.trans EH2.out)
    clear EH2
    go_wp2_with (first
      | (go_at_call 25
         with_reducible refine HS.out.mono ?_
         rintro e w1 ⟨rfl, hb⟩
         rw [EV.out]
         have B1 := Lib.hid (below_step HB.out hb)
         clear hb)
      | (go_at_call 32; with_reducible refine (spec_letter_is a true _ LA.out).mono ?_; rintro e w' ⟨rfl, rfl⟩)
      | (go_at_call 32; with_reducible refine (spec_letter_is b false _ LB.out).mono ?_; rintro e w' ⟨rfl, rfl⟩))
    refine bodyPost_ret (results_tmp2 rfl _ _ _) rfl ?_
    exact ⟨rfl, B1.out⟩
  | true =>
    obtain ⟨rfl, rfl⟩ := Prod.mk.inj ((if_pos (by simp)).symm.trans EH2.out)
    clear EH2
    go_wp2_with (first
      | (go_at_call 25
         with_reducible refine HS.out.mono ?_
         rintro e w1 ⟨rfl, hb⟩
         rw [EV.out]
         have B1 := Lib.hid (below_step HB.out hb)
         have HQ := Lib.hid (HY.out w1 hb)
         clear hb)
      | (go_at_call 32; with_reducible refine (spec_letter_is a true _ LA.out).mono ?_; rintro e w' ⟨rfl, rfl⟩)
      | (go_at_call 32; with_reducible refine (spec_letter_is b true _ LB.out).mono ?_; rintro e w' ⟨rfl, rfl⟩)
      | (go_at_call 33
         with_reducible refine HQ.out.mono ?_
         rintro e w2 ⟨rfl, hb⟩
         have B2 := Lib.hid (below_step B1.out hb)
         clear hb))
    refine bodyPost_ret (results_tmp2 rfl _ _ _) rfl ?_
    exact ⟨rfl, B2.out⟩
set_option maxHeartbeats 8000000 in
set_option maxRecDepth 100000 in
theorem implPairByC (ws : List Int) (hx : ws.length = 26) (sp gp : Int) (A : Option Addr) (c : Nat) (l : List S46) (a b : Int) (w : World) (hr : Kd.C k46 w A l.length l) (hc : l.length ≤ c) (hl : l.length ≤ 1048576) (hf : Fit ws sp gp l) (r1 r2 : Int) (h : pairByR ws sp gp l a b = (r1, r2)) :
    Calls Try.prog 16 #[.agg (FV ws sp gp (.slice A l.length c)), .int .u8 a, .int .u8 b] w fun e w' => e = .returned (.tuple #[.int .i64 r1, .int .i64 r2]) ∧ Below w.heap.size w w' := by
  have H1 := Lib.hid (heap_alloc_new w (.cells (FV ws sp gp (.slice A l.length c)) 31))
  have HB := Lib.hid (below_alloc (Below.refl w.heap.size w) (.cells (FV ws sp gp (.slice A l.length c)) 31))
  have SZ := Lib.hid (show w.heap.size < (w.alloc (.cells (FV ws sp gp (.slice A l.length c)) 31)).heap.size by simp)
  have HS0 := Lib.hid (fun v hv => implValidC ws hx sp gp A c l _ (Kd.C_below hr HB.out) hc hl hf v hv)
  have HY := Lib.hid (fun (w1 : World) (h1 : Below (w.alloc (.cells (FV ws sp gp (.slice A l.length c)) 31)).heap.size (w.alloc (.cells (FV ws sp gp (.slice A l.length c)) 31)) w1) => implByC ws hx sp gp A c l a b w1 (Kd.C_below (Kd.C_below hr HB.out) h1) hc hl hf)
  obtain ⟨v, hv⟩ : ∃ v, validB ws sp gp l = v := ⟨_, rfl⟩
  obtain ⟨la, hla⟩ : ∃ v, letB a = v := ⟨_, rfl⟩
  obtain ⟨lb, hlb⟩ : ∃ v, letB b = v := ⟨_, rfl⟩
  have EV := Lib.hid hv
  have HS := Lib.hid (HS0.out v hv)
  have HX := Lib.hid hx
  have LA := Lib.hid hla
  have LB := Lib.hid hlb
  unfold pairByR at h
  rw [hv, hla, hlb] at h
  have EH := Lib.hid h
  clear hr hc hl hf hx h hv hla hlb
  go_enter Try.func16, Try.ntmps16
  obtain ⟨M, hM⟩ : ∃ M : Nat, M = 29 := ⟨_, rfl⟩
  obtain ⟨U, hU⟩ : ∃ U : TypeId, U = 31 := ⟨_, rfl⟩
  have hzU : ∀ w, (sizeOf U).run Try.prog w = .ok M w := fun w => by rw [hM, hU]; exact Try.sizeOf31 w
  have haU : ∀ w, (isAgg U).run Try.prog w = .ok true w := fun w => by rw [hU]; exact Try.isAgg31 w
  have e2 : ∀ x, Op.load 31 x = Op.load U x := fun x => by rw [hU]
  simp only [e2]
  clear e2
  have q0 := loadF H1.out HX.out hM
  have HM := Lib.hid hM
  clear hM hU
  cases v with
  | false =>
    obtain ⟨rfl, rfl⟩ := Prod.mk.inj ((if_neg (by simp)).symm.trans EH.out)
    clear EH
    go_wp2_with (first
      | (go_at_call 11
         with_reducible refine HS.out.mono ?_
         rintro e w1 ⟨rfl, hb⟩
         have B1 := Lib.hid (below_step HB.out hb)
         clear hb))
    refine bodyPost_ret (results_tmp2 rfl _ _ _) rfl ?_
    exact ⟨rfl, B1.out⟩
  | true =>
  have EH2 := Lib.hid ((if_pos (by simp)).symm.trans EH.out)
  clear EH
  cases la with
  | false =>
    obtain ⟨rfl, rfl⟩ := Prod.mk.inj ((if_neg (by simp)).symm.trans EH2.out)
    clear EH2
    go_wp2_with (first
      | (go_at_call 11
         with_reducible refine HS.out.mono ?_
         rintro e w1 ⟨rfl, hb⟩
         have B1 := Lib.hid (below_step HB.out hb)
         clear hb)
      | (go_at_call 34; with_reducible refine (impl_letter_is a false _ LA.out).mono ?_; rintro e w' ⟨rfl, rfl⟩))
    refine bodyPost_ret (results_tmp2 rfl _ _ _) rfl ?_
    exact ⟨rfl, B1.out⟩
  | true =>
  cases lb with
  | false =>
    obtain ⟨rfl, rfl⟩ := Prod.mk.inj ((if_neg (by simp)).symm.trans EH2.out)
    clear EH2
    go_wp2_with (first
      | (go_at_call 11
         with_reducible refine HS.out.mono ?_
         rintro e w1 ⟨rfl, hb⟩
         have B1 := Lib.hid (below_step HB.out hb)
         clear hb)
      | (go_at_call 34; with_reducible refine (impl_letter_is a true _ LA.out).mono ?_; rintro e w' ⟨rfl, rfl⟩)
      | (go_at_call 34; with_reducible refine (impl_letter_is b false _ LB.out).mono ?_; rintro e w' ⟨rfl, rfl⟩))
    refine bodyPost_ret (results_tmp2 rfl _ _ _) rfl ?_
    exact ⟨rfl, B1.out⟩
  | true =>
    obtain ⟨rfl, rfl⟩ := Prod.mk.inj ((if_pos (by simp)).symm.trans EH2.out)
    clear EH2
    go_wp2_with (first
      | (go_at_call 11
         with_reducible refine HS.out.mono ?_
         rintro e w1 ⟨rfl, hb⟩
         have B1 := Lib.hid (below_step HB.out hb)
         have HQ := Lib.hid (HY.out w1 hb)
         have q1 := loadF ((hb.block w.heap.size SZ.out).trans H1.out) HX.out HM.out
         clear hb)
      | (go_at_call 34; with_reducible refine (impl_letter_is a true _ LA.out).mono ?_; rintro e w' ⟨rfl, rfl⟩)
      | (go_at_call 34; with_reducible refine (impl_letter_is b true _ LB.out).mono ?_; rintro e w' ⟨rfl, rfl⟩)
      | (go_at_call 35
         with_reducible refine HQ.out.mono ?_
         rintro e w2 ⟨rfl, hb⟩
         have B2 := Lib.hid (below_step B1.out hb)
         clear hb))
    refine bodyPost_ret (results_tmp2 rfl _ _ _) rfl ?_
    exact ⟨rfl, B2.out⟩
end Go.Proofs.Ytjaamcedgdhilaa.Q
