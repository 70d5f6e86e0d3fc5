/- spec.l01Drawn, spec.A2Face, by hand. -/
import Derived.Test.YtimkkjkgbbfgbaaGreatDoorQCnt
import Derived.Test.YtimkkjkgbbfgbaaGreatDoorQhandSpecWith
import Derived.Test.YtimkkjkgbbfgbaaGreatDoorQRf
import Derived.Test.YtimkkjkgbbfgbaaGreatDoorQLs
namespace Go.Proofs.YtimkkjkgbbfgbaaGreatDoor.Q
open Go.RowKit Go.Proofs.YtimkkjkgbbfgbaaGreatDoorW.PrintWords Go.Proofs.YtimkkjkgbbfgbaaGreatDoorW.PrintLast Go.Proofs.YtimkkjkgbbfgbaaGreatDoorW.PrintMore
open Go.Proofs.YtimkkjkgbbfgbaaGreatDoor.Pure
set_option linter.unusedVariables false
set_option linter.unusedSimpArgs false

/-- What a draw keeps: the source's state, so many bytes read at most. -/
structure D0 (w0 wS : World) (g : Nat) (gs : List Int) (n : Int) (W : World) : Prop where
  s : ∃ p sd, IsS89 w0 W g gs p sd ∧ 0 ≤ p ∧ p ≤ n
  b : Below w0.heap.size w0 W
  kb : KeepBut wS W g none
theorem D0.below {w0 wS : World} {g : Nat} {gs : List Int} {n : Int} {W W' : World} (h : D0 w0 wS g gs n W) (hb : Below W.heap.size W W') : D0 w0 wS g gs n W' := by
  obtain ⟨p, sd, h1, h2⟩ := h.s
  exact ⟨⟨p, sd, h1.below hb, h2⟩, below_step h.b hb, h.kb.trans (KeepBut.of_below hb g none) (.inl rfl)⟩
theorem D0.far {w0 wS : World} {g : Nat} {gs : List Int} {n : Int} {W : World} {k j : Nat} (h : D0 w0 wS g gs n W) (hq : g < k) (hs : wS.heap.size ≤ k) (u : Value) : D0 w0 wS g gs n (W.setCell ⟨k, j, none⟩ u) := by
  obtain ⟨p, sd, h1, h2⟩ := h.s
  exact ⟨⟨p, sd, h1.far (p := ⟨k, j, none⟩) (by show g ≠ k; omega) u, h2⟩, below_set h.b (by have := h1.ge; omega), keep_far h.kb (p := ⟨k, j, none⟩) hs u⟩
theorem keep_row {wS W : World} {g k : Nat} (h : KeepBut wS W g none) (hs : wS.heap.size ≤ k) (F : Array Value) : KeepBut wS (W.setRow k F) g none :=
  ⟨by rw [size_setRow]; exact h.1, fun i hi hg hn => (setRow_other W k i F (by omega)).trans (h.2 i hi hg hn)⟩
theorem D0.row {w0 wS : World} {g : Nat} {gs : List Int} {n : Int} {W : World} {k : Nat} (h : D0 w0 wS g gs n W) (hq : g < k) (hs : wS.heap.size ≤ k) (F : Array Value) : D0 w0 wS g gs n (W.setRow k F) := by
  obtain ⟨p, sd, ⟨A0, c0, hb, hg, hr⟩, h2⟩ := h.s
  refine ⟨⟨p, sd, ⟨A0, c0, ?_, hg, hr⟩, h2⟩, below_setRow h.b (by omega) F, keep_row h.kb hs F⟩
  rw [← hb]
  exact setRow_other _ _ _ _ (by omega)
theorem D0.le {w0 wS : World} {g : Nat} {gs : List Int} {n m : Int} {W : World} (h : D0 w0 wS g gs n W) (hm : n ≤ m) : D0 w0 wS g gs m W := by
  obtain ⟨p, sd, h1, h2, h3⟩ := h.s
  exact ⟨⟨p, sd, h1, h2, by omega⟩, h.b, h.kb⟩
theorem pickD (w0 wS : World) (g : Nat) (gs : List Int) (hg : bytesL gs) (n m : Int) (hn : n ≤ 1000) (h1 : 1 ≤ m) (h2 : m ≤ 200) (W : World) (h : D0 w0 wS g gs n W) :
    Calls Tryz.prog 62 #[.pointer (some ⟨g, 0, none⟩), .int .i64 m] W fun e w' => ∃ x : Int, e = .returned (.int .i64 x) ∧ (0 ≤ x ∧ x < m) ∧ D0 w0 wS g gs (n + 1) w' ∧ KeepBut W w' g none := by
  obtain ⟨p, sd, hI, hp0, hp1⟩ := h.s
  obtain ⟨x, a2, s2, e2, hx, ha, hb⟩ := pick_ok gs hg p sd m hp0 (by omega) h1 h2
  refine (spec_l00Src_pick.calls g gs p sd m x a2 s2 w0 W hI h.b e2).mono ?_
  rintro e w' ⟨rfl, hi, hb2, hk⟩
  exact ⟨x, rfl, hx, ⟨⟨a2, s2, hi, by omega, by omega⟩, hb2, h.kb.trans hk (.inl rfl)⟩, hk⟩
theorem oneD (w0 wS : World) (g : Nat) (gs : List Int) (hg : bytesL gs) (n m : Int) (hn : n ≤ 1000) (h1 : 1 ≤ m) (h2 : m ≤ 200) (W : World) (h : D0 w0 wS g gs n W) :
    Calls Tryz.prog 63 #[.pointer (some ⟨g, 0, none⟩), .int .i64 m] W fun e w' => ∃ x : Bool, e = .returned (.bool x) ∧ D0 w0 wS g gs (n + 1) w' ∧ KeepBut W w' g none := by
  obtain ⟨p, sd, hI, hp0, hp1⟩ := h.s
  obtain ⟨x, a2, s2, e2, ha, hb⟩ := one_ok gs hg p sd m hp0 (by omega) h1 h2
  refine (spec_l00Src_one.calls g gs p sd m x a2 s2 w0 W hI h.b e2).mono ?_
  rintro e w' ⟨rfl, hi, hb2, hk⟩
  exact ⟨x, rfl, ⟨⟨a2, s2, hi, by omega, by omega⟩, hb2, h.kb.trans hk (.inl rfl)⟩, hk⟩
theorem valid_fits {ws : List Int} (hx : ws.length = 26) {sp gp : Int} {l : List S33} (h : validB ws sp gp l = true) : Fit ws sp gp l := by
  obtain ⟨h1, h2, h3, h4, h5⟩ := valid_facts hx h
  exact fit_read hx (fun x hx => ⟨by have := (h1 x hx).1; omega, (h1 x hx).2⟩) ⟨by omega, h2.2⟩ h3 (fun p hp => by have := h5 p hp; omega)
theorem FV_seta (vs : List Int) (k : Nat) (hk : k < 26) (hv : vs.length = k) (sp gp n m : Int) (v : Value) : (FV ((vs ++ [n]) ++ Z26.drop (k + 1)) sp gp v).setIfInBounds k (.int .i8 m) = FV ((vs ++ [m]) ++ Z26.drop (k + 1)) sp gp v := by
  rw [← FV_setw vs k hk hv sp gp n v, ← FV_setw vs k hk hv sp gp m v]
  simp
theorem results_face1 {fn : Func} {p : Tmp} (h : fn.results = #[.cell p 28]) (tmps : Array Value) (w : World) (g : Nat) (t : TypeId) (ws : List Int) (hx : ws.length = 26) (sp gp : Int) (v : Value)
    (hp : tmps.getD p undef = .pointer (some ⟨g, 0, none⟩)) (hg : w.heap[g]? = some (.cells (FV ws sp gp v) t (0, 0))) : (results fn tmps).run Tryz.prog w = .ok (.agg (FV ws sp gp v)) w := by
  exact results_cell_row h tmps w g t (FV ws sp gp v) (0, 0) _ hp hg Tryz.underlying28 rfl (by rw [FV_size ws hx]; kernel_rfl)
theorem specWithD (ws : List Int) (hx : ws.length = 26) (sp gp : Int) (A : Option Addr) (c : Nat) (l : List S33) (pa pb pc : Int) (hp : -128 ≤ pc ∧ pc ≤ 127) (w : World) (hr : Kd.C k33 w A l.length l) (hc : l.length ≤ c) (hl : l.length ≤ 1048576) (hf : Fit ws sp gp l) (rv : List Int) (rs rg : Int) (rl : List S33) (code : Int) (h : withR ws sp gp l ⟨pa, pb, pc⟩ = ((rv, rs, rg, rl), code)) :
    Calls Tryz.prog 11 #[.agg (FV ws sp gp (.slice A l.length c)), .agg #[.int .u8 pa, .int .u8 pb, .int .i8 pc]] w fun e w' => ∃ B d, e = .returned (.tuple #[.agg (FV rv rs rg (.slice B rl.length d)), .int .i64 code]) ∧ Kd.R k33 33 w' w.heap.size (fun _ => True) (.slice B rl.length d) rl ∧ Below w.heap.size w w' :=
  specWithC ws hx sp gp A c l ⟨pa, pb, pc⟩ hp w hr hc hl hf (rv, rs, rg, rl) code h
theorem withR_zero {ws : List Int} {sp gp : Int} {l : List S33} {p : S33} {rv : List Int} {rs rg : Int} {rl : List S33} (h : withR ws sp gp l p = ((rv, rs, rg, rl), 0)) : rv = ws ∧ rs = sp ∧ rg = gp ∧ validB ws sp gp rl = true := by
  obtain ⟨h1, h2⟩ := withR_ok h
  obtain ⟨e1, h1⟩ := Prod.mk.inj h1
  obtain ⟨e2, h1⟩ := Prod.mk.inj h1
  obtain ⟨e3, e4⟩ := Prod.mk.inj h1
  exact ⟨e1, e2, e3, by rw [e4]; exact h2⟩
theorem withR_len {ws : List Int} (hx : ws.length = 26) {sp gp : Int} {l : List S33} {p : S33} {rv : List Int} {rs rg : Int} {rl : List S33} {code : Int} (h : withR ws sp gp l p = ((rv, rs, rg, rl), code)) : rv.length = 26 := by
  unfold withR at h
  have key : ∀ (r : Face) (c : Int), (r, c) = ((rv, rs, rg, rl), code) → r.1.length = 26 → rv.length = 26 := fun r c e he => by
    have := (Prod.mk.inj e).1
    subst this
    exact he
  split at h
  · split at h
    · split at h
      · split at h
        · exact key _ _ h hx
        · exact key _ _ h rfl
      · exact key _ _ h rfl
    · exact key _ _ h rfl
  · exact key _ _ h rfl
theorem drawn_valid {vs : List Int} (hx : vs.length = 26) (hv : ∀ x ∈ vs, 4 ≤ x ∧ x ≤ 15) {n1 n2 : Int} (h1 : 2 ≤ n1 ∧ n1 ≤ 9) (h2 : 0 ≤ n2 ∧ n2 ≤ 3) : validB vs n1 n2 [] = true := by
  unfold validB faceB
  have h3 : wideB vs = true := by
    unfold wideB
    rw [List.all_eq_true]
    intro i hi
    have hi2 := List.mem_range.1 hi
    rw [Pure.rd_get vs i (by omega)]
    have := hv _ (List.getElem_mem (show i < vs.length by omega))
    unfold inB
    rw [decide_eq_true (by omega), decide_eq_true (by omega)]
    rfl
  have h4 : pairsB n2 [] = true := rfl
  unfold inB
  rw [h3, h4, decide_eq_true (show 1 ≤ n1 by omega), decide_eq_true (show n1 ≤ 40 by omega), decide_eq_true (show 0 ≤ n2 by omega), decide_eq_true (show n2 ≤ 10 by omega)]
  rfl

set_option maxHeartbeats 8000000 in
set_option maxRecDepth 100000 in
theorem drawnC (w0 : World) (g : Nat) (gs : List Int) (hg : bytesL gs) (w : World) (hD : D0 w0 w g gs 0 w) :
    Calls Tryz.prog 27 #[.pointer (some ⟨g, 0, none⟩)] w fun e w' => ∃ ws sp gp l B d, e = .returned (.agg (FV ws sp gp (.slice B l.length d))) ∧ ws.length = 26 ∧ validB ws sp gp l = true ∧ Kd.R k33 33 w' w0.heap.size (fun k => w.heap.size < k) (.slice B l.length d) l ∧ Below w0.heap.size w0 w' ∧ KeepBut w w' g none := by
  have hgw : g < w.heap.size := by obtain ⟨p, sd, hI, _⟩ := hD.s; exact hI.lt
  have hg0 : w0.heap.size ≤ g := by obtain ⟨p, sd, hI, _⟩ := hD.s; exact hI.ge
  go_enter Tryz.func27, Tryz.ntmps27
  obtain ⟨M, hM⟩ : ∃ M : Nat, M = 29 := ⟨_, rfl⟩
  obtain ⟨U, hU⟩ : ∃ U : TypeId, U = 28 := ⟨_, rfl⟩
  have huU := fun w => (show (underlying U).run Tryz.prog w = (underlying 28).run Tryz.prog w by rw [hU]).trans (run_underlying (P := Tryz.prog) (w := w) Tryz.underlying28)
  have hzU : ∀ w, (sizeOf U).run Tryz.prog w = .ok M w := fun w => by rw [hM, hU]; exact Tryz.sizeOf28 w
  have haU : ∀ w, (isAgg U).run Tryz.prog w = .ok true w := fun w => by rw [hU]; exact Tryz.isAgg28 w
  have hvU : ∀ w, (zeroValue U).run Tryz.prog w = .ok (.agg ZF) w := fun w => by rw [hU]; exact Tryz.zeroValue28 w
  have e2 : ∀ x, Op.load 28 x = Op.load U x := fun x => by rw [hU]
  have e3 : ∀ x y, Op.store 28 x y = Op.store U x y := fun x y => by rw [hU]
  have e4 : Op.alloc 28 = Op.alloc U := by rw [hU]
  have e5 : ∀ x, Op.build 28 x = Op.build U x := fun x => by rw [hU]
  simp only [e2, e3, e4, e5]
  clear e2 e3 e4 e5
  have hFz : ZF.size = M := by rw [hM]; rfl
  have hm1 : ¬ M < 27 := by omega
  have hm2 : ¬ M < 28 := by omega
  have HM := Lib.hid hM
  have HGS := Lib.hid hg
  have HGW := Lib.hid hgw
  have HG0 := Lib.hid hg0
  clear hM hU hg hgw hg0
  have D1 := Lib.hid (hD.below (below_alloc (Below.refl w.heap.size w) (.cells ZF U)))
  have K1 := Lib.hid (heap_alloc_new w (.cells ZF U))
  clear hD
  go_upto_region 2 with (first
    | (go_at_call 62
       with_reducible refine (pickD w0 w g gs HGS.out 0 8 (by decide) (by decide) (by decide) _ D1.out).mono ?_
       rintro e w2 ⟨x, rfl, hx, hd, hk⟩
       have D2 := Lib.hid hd
       have K2 := Lib.hid (hk.blk K1.out (by have := HGW.out; omega) (by simp))
       obtain ⟨n1, hn1⟩ : ∃ n1, n1 = 2 + x := ⟨_, rfl⟩
       have v1 : wrap64 (2 + x) = n1 := by rw [hn1]; exact wrap_id (by omega) (by omega)
       have u1 : IntKind.i8.wrap n1 = n1 := IntWalk.i8_in _ (by omega)
       have HN1 := Lib.hid (show 2 ≤ n1 ∧ n1 ≤ 9 by omega)
       clear hd hk hx hn1)
    | (go_at_call 62
       with_reducible refine (pickD w0 w g gs HGS.out (0 + 1) 4 (by decide) (by decide) (by decide) _ D2.out).mono ?_
       rintro e w3 ⟨n2, rfl, hx, hd, hk⟩
       have D3 := Lib.hid hd
       have K3 := Lib.hid (hk.blk K2.out (by have := HGW.out; omega) (by simp))
       have u2 : IntKind.i8.wrap n2 = n2 := IntWalk.i8_in _ (by omega)
       have HN2 := Lib.hid (show 0 ≤ n2 ∧ n2 ≤ 3 by omega)
       have hst3 := store_new w3 U Z26 Z26_len n1 n2 none 0 0
       rw [← FV_two n1 n2] at hst3
       clear hd hk hx))
  clear hst3 v1 u1 u2
  obtain ⟨y1, y2, y3⟩ := boxed w3 U Z26 n1 n2 (.slice none 0 0)
  obtain ⟨w4, hw4⟩ : ∃ w4, w4 = (w3.alloc (.cells ZF U)).setRow w3.heap.size (FV Z26 n1 n2 (.slice none 0 0)) := ⟨_, rfl⟩
  rw [← hw4] at y1 y2 y3 ⊢
  have D4 := Lib.hid (D3.out.below y1)
  have K4 := Lib.hid ((y1.block _ (blk_lt K3.out)).trans K3.out)
  have HB1 := Lib.hid (show w.heap.size < w3.heap.size from blk_lt K3.out)
  generalize w3.heap.size = b1 at y2 HB1 ⊢
  have C4 := Lib.hid y2
  clear y1 y2 y3 hw4 D3 K3
  go_upto_region 3 with (first
    | (go_at_call 63
       with_reducible refine (oneD w0 w g gs HGS.out (0 + 1 + 1) 3 (by decide) (by decide) (by decide) _ D4.out).mono ?_
       rintro e w5 ⟨ev, rfl, hd, hk⟩
       have D5 := Lib.hid hd
       have K5 := Lib.hid (hk.blk K4.out (by have := HGW.out; omega) (by simp))
       have C5 := Lib.hid (hk.blk C4.out (by have := HGW.out; have := HB1.out; omega) (by simp))
       clear hd hk))
  go_wp2
  go_loopw [5] (fun i wr => ∃ (k : Nat) (vs : List Int), k ≤ 26 ∧ i = .int .i64 k ∧ RowKit.Hid (vs.length = k ∧ ∀ x ∈ vs, 4 ≤ x ∧ x ≤ 15) ∧ RowKit.Hid (D0 w0 w g gs (3 + k) wr) ∧ RowKit.Hid (wr.heap[w.heap.size]? = some (.cells ZF U (0, 0))) ∧ RowKit.Hid (wr.heap[b1]? = some (.cells (FV (vs ++ Z26.drop k) n1 n2 (.slice none 0 0)) U (0, 0)))) (fun i _ => 26 - (intOf i).toNat)
  case atStart => exact ⟨0, [], by decide, rfl, Lib.hid ⟨rfl, fun x hx => by simp at hx⟩, Lib.hid (D5.out.le (by decide)), K5, C5⟩
  case round =>
    obtain ⟨k, vs, hk, rfl, HV, HD, HK, HC⟩ := hrel
    by_cases hk2 : k < 26
    · have hk3 : (k : Int) < 26 := by omega
      have g6 := (blk_cell HC.out k).trans (FV_lt _ (FVw_len vs k hk HV.out.1) n1 n2 (.slice none 0 0) k hk2)
      have f6 := blk_frozen HC.out k
      have HW2 : ∀ (v : Int), (wr.setCell ⟨b1, k, none⟩ (.int .i8 v)).heap[b1]? = some (.cells (FV ((vs ++ [v]) ++ Z26.drop (k + 1)) n1 n2 (.slice none 0 0)) U (0, 0)) := fun v => blk_put HC.out k _ (FV_setw vs k hk2 HV.out.1 n1 n2 v _)
      have D7 := Lib.hid (HD.out.far (k := b1) (j := k) (by have := HGW.out; have := HB1.out; omega) (by have := HB1.out; omega) (.int .i8 10))
      have K7 := Lib.hid (blk_far (p := ⟨b1, k, none⟩) HK.out (by show w.heap.size ≠ b1; have := HB1.out; omega) (.int .i8 10))
      have C7 := Lib.hid (HW2 10)
      clear HW2
      cases ev with
      | true =>
        go_wp2
        go_roundw
        case measure => simp only [intOf]; omega
        case rel => exact ⟨k + 1, vs ++ [10], by omega, by go_num, Lib.hid ⟨by rw [List.length_append, HV.out.1]; rfl, fun x hx => by
          rcases List.mem_append.1 hx with hx | hx
          · exact HV.out.2 x hx
          · rw [List.mem_singleton.1 hx]; decide⟩, Lib.hid (D7.out.le (by omega)), K7, C7⟩
      | false =>
        have hgc := C7.out
        go_wp2_with (first
          | (go_at_call 62
             with_reducible refine (pickD w0 w g gs HGS.out (3 + k) 12 (by omega) (by decide) (by decide) _ D7.out).mono ?_
             rintro e w8 ⟨x, rfl, hx, hd, hkk⟩
             have D8 := Lib.hid hd
             have K8 := Lib.hid (hkk.blk K7.out (by have := HGW.out; omega) (by simp))
             have C8 := Lib.hid (hkk.blk C7.out (by have := HGW.out; have := HB1.out; omega) (by simp))
             obtain ⟨y, hy⟩ : ∃ y, y = 4 + x := ⟨_, rfl⟩
             have v1 : wrap64 (4 + x) = y := by rw [hy]; exact wrap_id (by omega) (by omega)
             have u1 : IntKind.i8.wrap y = y := IntWalk.i8_in _ (by omega)
             have HY := Lib.hid (show 4 ≤ y ∧ y ≤ 15 by omega)
             have g8 := (blk_cell C8.out k).trans (FV_lt _ (FVw_len (vs ++ [10]) (k + 1) (by omega) (by rw [List.length_append, HV.out.1]; rfl)) n1 n2 (.slice none 0 0) k hk2)
             have f8 := blk_frozen C8.out k
             clear hd hkk hx hy hgc))
        have D9 := Lib.hid (D8.out.far (k := b1) (j := k) (by have := HGW.out; have := HB1.out; omega) (by have := HB1.out; omega) (.int .i8 y))
        have K9 := Lib.hid (blk_far (p := ⟨b1, k, none⟩) K8.out (by show w.heap.size ≠ b1; have := HB1.out; omega) (.int .i8 y))
        have C9 := Lib.hid (blk_put C8.out k (.int .i8 y) (FV_seta vs k hk2 HV.out.1 n1 n2 10 y (.slice none 0 0)))
        go_roundw
        case measure => simp only [intOf]; omega
        case rel => exact ⟨k + 1, vs ++ [y], by omega, by go_num, Lib.hid ⟨by rw [List.length_append, HV.out.1]; rfl, fun x hx => by
          rcases List.mem_append.1 hx with hx | hx
          · exact HV.out.2 x hx
          · rw [List.mem_singleton.1 hx]; exact HY.out⟩, Lib.hid (D9.out.le (by omega)), K9, C9⟩
    · have hk3 : ¬ (k : Int) < 26 := by omega
      have HVL := Lib.hid (show vs.length = 26 by have := HV.out.1; omega)
      have HVA := Lib.hid HV.out.2
      have CC := Lib.hid (show wr.heap[b1]? = some (.cells (FV vs n1 n2 (.slice none 0 0)) U (0, 0)) by
        have h1 := HC.out
        rw [List.drop_of_length_le (by rw [Z26_len]; omega), List.append_nil] at h1
        exact h1)
      have DD := Lib.hid (HD.out.le (show 3 + (k : Int) ≤ 40 by omega))
      clear HV HC HD hk2
      go_upto_region 10 with (first
        | (go_at_call 62
           with_reducible refine (pickD w0 w g gs HGS.out 40 6 (by decide) (by decide) (by decide) _ DD.out).mono ?_
           rintro e w10 ⟨m0, rfl, hm0, hd, hkk⟩
           have D10 := Lib.hid hd
           have K10 := Lib.hid (hkk.blk HK.out (by have := HGW.out; omega) (by simp))
           have C10 := Lib.hid (hkk.blk CC.out (by have := HGW.out; have := HB1.out; omega) (by simp))
           have HM0 := Lib.hid hm0
           clear hd hkk hm0))
      go_wp2
      go_loopw [6] (fun i wq => ∃ (m : Int) (l : List S33) (B : Option Addr) (d : Nat), (0 ≤ m ∧ m ≤ 5) ∧ i = .int .i64 m ∧ RowKit.Hid (validB vs n1 n2 l = true) ∧ RowKit.Hid (D0 w0 w g gs (100 - 3 * m) wq) ∧ RowKit.Hid (wq.heap[w.heap.size]? = some (.cells ZF U (0, 0))) ∧ RowKit.Hid (wq.heap[b1]? = some (.cells (FV vs n1 n2 (.slice B l.length d)) U (0, 0))) ∧ RowKit.Hid (Kd.R k33 33 wq w0.heap.size (fun k => b1 < k) (.slice B l.length d) l)) (fun i _ => (intOf i).toNat)
      case atStart => exact ⟨m0, [], none, 0, by have := HM0.out; omega, rfl, Lib.hid (drawn_valid HVL.out HVA.out HN1.out HN2.out), Lib.hid (D10.out.le (by have := HM0.out; omega)), K10, C10, Lib.hid (Kd.R_nil _ _ _ _ _)⟩
      case round =>
        obtain ⟨m, l, B, d, hm, rfl, HVB, HD, HK2, HC, HR⟩ := hrel
        by_cases hm2 : 0 < m
        · have c1 : decide (m > 0) = true := decide_eq_true hm2
          go_upto_region 13 with (first
            | (go_at_call 62
               with_reducible refine (pickD w0 w g gs HGS.out (100 - 3 * m) 5 (by omega) (by decide) (by decide) _ HD.out).mono ?_
               rintro e w11 ⟨x, rfl, hx, hd, hkk⟩
               have D11 := Lib.hid hd
               have K11 := Lib.hid (hkk.blk HK2.out (by have := HGW.out; omega) (by simp))
               have C11 := Lib.hid (hkk.blk HC.out (by have := HGW.out; have := HB1.out; omega) (by simp))
               have R11 := Lib.hid (Kd.R_keep HR.out hkk (fun k hk => by have := HGW.out; have := HB1.out; omega))
               obtain ⟨xa, hxa⟩ : ∃ y, y = 65 + x := ⟨_, rfl⟩
               have v1 : wrap64 (65 + x) = xa := by rw [hxa]; exact wrap_id (by omega) (by omega)
               have u1 : xa % 256 = xa := by omega
               have HXA := Lib.hid (show 65 ≤ xa ∧ xa ≤ 90 by omega)
               clear hd hkk hx hxa)
            | (go_at_call 62
               with_reducible refine (pickD w0 w g gs HGS.out (100 - 3 * m + 1) 5 (by omega) (by decide) (by decide) _ D11.out).mono ?_
               rintro e w12 ⟨y, rfl, hx, hd, hkk⟩
               have D12 := Lib.hid hd
               have K12 := Lib.hid (hkk.blk K11.out (by have := HGW.out; omega) (by simp))
               have C12 := Lib.hid (hkk.blk C11.out (by have := HGW.out; have := HB1.out; omega) (by simp))
               have R12 := Lib.hid (Kd.R_keep R11.out hkk (fun k hk => by have := HGW.out; have := HB1.out; omega))
               obtain ⟨ya, hya⟩ : ∃ z, z = 65 + y := ⟨_, rfl⟩
               have v2 : wrap64 (65 + y) = ya := by rw [hya]; exact wrap_id (by omega) (by omega)
               have u2 : ya % 256 = ya := by omega
               have HYA := Lib.hid (show 65 ≤ ya ∧ ya ≤ 90 by omega)
               clear hd hkk hx hya))
          have D13 := Lib.hid (D12.out.below (below_alloc (Below.refl w12.heap.size w12) (.cells #[.int .u8 xa, .int .u8 ya, .int .i8 0] 33)))
          have K13 := Lib.hid (((below_alloc (Below.refl w12.heap.size w12) (.cells #[.int .u8 xa, .int .u8 ya, .int .i8 0] 33)).block _ (blk_lt K12.out)).trans K12.out)
          have C13 := Lib.hid (((below_alloc (Below.refl w12.heap.size w12) (.cells #[.int .u8 xa, .int .u8 ya, .int .i8 0] 33)).block _ (blk_lt C12.out)).trans C12.out)
          have R13 := Lib.hid (Kd.R_mono (Kd.R_bound R12.out) (fun k hk => show b1 < k ∧ k ≠ w12.heap.size from ⟨hk.1, by have := hk.2.2.1; omega⟩))
          have R13 := Lib.hid (Kd.R_below R13.out (below_alloc (Below.refl w12.heap.size w12) (.cells #[.int .u8 xa, .int .u8 ya, .int .i8 0] 33)))
          have P13 := Lib.hid (heap_alloc_new w12 (.cells #[.int .u8 xa, .int .u8 ya, .int .i8 0] 33))
          have HB2 := Lib.hid (show b1 < w12.heap.size from blk_lt C12.out)
          clear v1 u1 v2 u2 D11 K11 C11 D12 K12 C12 R12 R11
          generalize w12.alloc (.cells #[.int .u8 xa, .int .u8 ya, .int .i8 0] 33) = w13 at D13 K13 C13 R13 P13 ⊢
          generalize w12.heap.size = b2 at R13 P13 HB2 ⊢
          go_upto_region 14 with (first
            | (go_at_call 62
               with_reducible refine (pickD w0 w g gs HGS.out (100 - 3 * m + 1 + 1) 7 (by omega) (by decide) (by decide) _ D13.out).mono ?_
               rintro e w14 ⟨z, rfl, hx, hd, hkk⟩
               have D14 := Lib.hid hd
               have K14 := Lib.hid (hkk.blk K13.out (by have := HGW.out; omega) (by simp))
               have C14 := Lib.hid (hkk.blk C13.out (by have := HGW.out; have := HB1.out; omega) (by simp))
               have P14 := Lib.hid (hkk.blk P13.out (by have := HGW.out; have := HB1.out; have := HB2.out; omega) (by simp))
               have R14 := Lib.hid (Kd.R_keep R13.out hkk (fun k hk => by have := HGW.out; have := HB1.out; omega))
               obtain ⟨za, hza⟩ : ∃ y, y = z - 3 := ⟨_, rfl⟩
               have v1 : wrap64 (z - 3) = za := by rw [hza]; exact wrap_id (by omega) (by omega)
               have u1 : IntKind.i8.wrap za = za := IntWalk.i8_in _ (by omega)
               have HZA := Lib.hid (show -3 ≤ za ∧ za ≤ 3 by omega)
               have g14 : w14.cell? ⟨b2, 2, none⟩ = some (.int .i8 0) := (blk_cell P14.out 2).trans rfl
               have f14 := blk_frozen P14.out 2
               clear hd hkk hx hza))
          have D15 := Lib.hid (D14.out.far (k := b2) (j := 2) (by have := HGW.out; have := HB1.out; have := HB2.out; omega) (by have := HB1.out; have := HB2.out; omega) (.int .i8 za))
          have K15 := Lib.hid (blk_far (p := ⟨b2, 2, none⟩) K14.out (by show w.heap.size ≠ b2; have := HB1.out; have := HB2.out; omega) (.int .i8 za))
          have C15 := Lib.hid (blk_far (p := ⟨b2, 2, none⟩) C14.out (by show b1 ≠ b2; have := HB2.out; omega) (.int .i8 za))
          have P15 := Lib.hid (show (w14.setCell ⟨b2, 2, none⟩ (.int .i8 za)).heap[b2]? = some (.cells #[.int .u8 xa, .int .u8 ya, .int .i8 za] 33 (0, 0)) from blk_put P14.out 2 (.int .i8 za) rfl)
          have R15 := Lib.hid (Kd.R_step R14.out (fun k hk hlt => show (w14.setCell ⟨b2, 2, none⟩ (.int .i8 za)).heap[k]? = w14.heap[k]? from heap_setCell_other _ _ _ _ (by show k ≠ b2; exact hk.2)))
          clear v1 u1 g14 f14 D14 K14 C14 P14 R14
          generalize w14.setCell ⟨b2, 2, none⟩ (.int .i8 za) = w15 at D15 K15 C15 P15 R15 ⊢
          have HLL := Lib.hid (show l.length ≤ 12 from (valid_facts HVL.out HVB.out).2.2.2.1)
          have q0 : w15.cell? ⟨b2, 0, none⟩ = some (.int .u8 xa) := (blk_cell P15.out 0).trans rfl
          have q1 : w15.cell? ⟨b2, 1, none⟩ = some (.int .u8 ya) := (blk_cell P15.out 1).trans rfl
          have q2 : w15.cell? ⟨b2, 2, none⟩ = some (.int .i8 za) := (blk_cell P15.out 2).trans rfl
          have q3 := loadF C15.out HVL.out HM.out
          obtain ⟨rv, rs, rg, rl, code, hwr⟩ : ∃ rv rs rg rl code, withR vs n1 n2 l ⟨xa, ya, za⟩ = ((rv, rs, rg, rl), code) := ⟨_, _, _, _, _, rfl⟩
          have HWR := Lib.hid hwr
          have HRV := Lib.hid (withR_len HVL.out hwr)
          clear hwr
          have hFr : ∀ v, (FV rv rs rg v).size = M := fun v => by rw [FV_size rv HRV.out, HM.out]
          go_upto_region 15 with (first
            | (go_at_call 11
               with_reducible refine (specWithD vs HVL.out n1 n2 B d l xa ya za (by have := HZA.out; omega) _ (Kd.R_reads' R15.out).2.2 (Kd.R_reads' R15.out).2.1 (by have := HLL.out; omega) (valid_fits HVL.out HVB.out) rv rs rg rl code HWR.out).mono ?_
               rintro e w16 ⟨Bw, dw, rfl, hR, hb⟩
               have D16 := Lib.hid (D15.out.below hb)
               have K16 := Lib.hid ((hb.block _ (blk_lt K15.out)).trans K15.out)
               have C16 := Lib.hid ((hb.block _ (blk_lt C15.out)).trans C15.out)
               have R16 := Lib.hid (Kd.R_below R15.out hb)
               have S16 := Lib.hid (Kd.R_lower (Kd.R_mono (Kd.R_bound hR) (fun k hk => show b1 < k by have h1 := hk.2.1; have h2 := blk_lt C15.out; omega)) (show w0.heap.size ≤ w15.heap.size from D15.out.b.size))
               obtain ⟨x1, x2, x3⟩ := boxed w16 U rv rs rg (.slice Bw rl.length dw)
               have hst := store_new w16 U rv HRV.out rs rg Bw rl.length dw
               have HB3 := Lib.hid (show b1 < w16.heap.size from blk_lt C16.out)
               obtain ⟨w17, hw⟩ : ∃ w17, w17 = (w16.alloc (.cells ZF U)).setRow w16.heap.size (FV rv rs rg (.slice Bw rl.length dw)) := ⟨_, rfl⟩
               rw [← hw] at hst x1 x2 x3
               have D17 := Lib.hid (D16.out.below x1)
               have K17 := Lib.hid ((x1.block _ (blk_lt K16.out)).trans K16.out)
               have C17 := Lib.hid ((x1.block _ (blk_lt C16.out)).trans C16.out)
               have R17 := Lib.hid (Kd.R_below R16.out x1)
               have S17 := Lib.hid (Kd.R_below S16.out x1)
               have N17 := Lib.hid x2
               clear hR hb x1 x2 x3 hw q0 q1 q2 q3 D15 K15 C15 R15 P15 D16 K16 C16 R16 S16))
          clear hst
          have HM2 := Lib.hid hm
          have wm : wrap64 (m - 1) = m - 1 := wrap_id (by omega) (by omega)
          by_cases hcode : code = 0
          · subst hcode
            obtain ⟨e1, e2, e3, hv⟩ := withR_zero HWR.out
            have HE := Lib.hid (And.intro e1 (And.intro e2 e3))
            have HV2 := Lib.hid hv
            clear hv HWR e1 e2 e3
            have q5 := loadF N17.out HRV.out HM.out
            have hst2 := storeF (xs := rv) (sp' := rs) (gp' := rg) (A := Bw) (n := rl.length) (c := dw) C17.out HVL.out HRV.out
            have D18 := Lib.hid (D17.out.row (k := b1) (by have := HGW.out; have := HB1.out; omega) (by have := HB1.out; omega) (FV rv rs rg (.slice Bw rl.length dw)))
            have K18 := Lib.hid (show (w17.setRow b1 (FV rv rs rg (.slice Bw rl.length dw))).heap[w.heap.size]? = some (.cells ZF U (0, 0)) from (setRow_other w17 b1 w.heap.size _ (by have := HB1.out; omega)).trans K17.out)
            have C18 := Lib.hid (setRow_heap w17 b1 _ (FV rv rs rg (.slice Bw rl.length dw)) U (0, 0) C17.out)
            have S18 := Lib.hid (Kd.R_step S17.out (fun k hk hlt => show (w17.setRow b1 (FV rv rs rg (.slice Bw rl.length dw))).heap[k]? = w17.heap[k]? from setRow_other w17 b1 k _ (by omega)))
            have C19 := Lib.hid (show (w17.setRow b1 (FV rv rs rg (.slice Bw rl.length dw))).heap[b1]? = some (.cells (FV vs n1 n2 (.slice Bw rl.length dw)) U (0, 0)) by have h := C18.out; rw [HE.out.1, HE.out.2.1, HE.out.2.2] at h ⊢; exact h)
            go_wp2
            go_roundw
            case measure => simp only [intOf]; omega
            case rel => exact ⟨m - 1, rl, Bw, dw, by have := HM2.out; omega, rfl, HV2, Lib.hid (D18.out.le (by omega)), K18, C19, S18⟩
          · have t1 : (code == 0) = false := beq_eq_false_iff_ne.2 hcode
            go_wp2
            go_roundw
            case measure => simp only [intOf]; omega
            case rel => exact ⟨m - 1, l, B, d, by have := HM2.out; omega, rfl, HVB, Lib.hid (D17.out.le (by omega)), K17, C17, Lib.hid (Kd.R_mono R17.out (fun k hk => hk.1))⟩
        · have c1 : decide (m > 0) = false := decide_eq_false hm2
          have q5 := loadF HC.out HVL.out HM.out
          have hFr : ∀ v, (FV vs n1 n2 v).size = M := fun v => by rw [FV_size vs HVL.out, HM.out]
          have hst2 := storeF (xs := vs) (sp' := n1) (gp' := n2) (A := B) (n := l.length) (c := d) HK2.out Z26_len HVL.out
          have C18 := Lib.hid (setRow_heap wr w.heap.size _ (FV vs n1 n2 (.slice B l.length d)) U (0, 0) HK2.out)
          have S18 := Lib.hid (Kd.R_step HR.out (fun k hk hlt => show (wr.setRow w.heap.size (FV vs n1 n2 (.slice B l.length d))).heap[k]? = wr.heap[k]? from setRow_other wr w.heap.size k _ (by have := HB1.out; omega)))
          go_wp2
          refine bodyPost_ret (results_face1 rfl _ _ w.heap.size U vs HVL.out n1 n2 (.slice B l.length d) rfl C18.out) rfl ?_
          exact ⟨vs, n1, n2, l, B, d, rfl, HVL.out, HVB.out, Kd.R_mono S18.out (fun k hk => by have := HB1.out; omega), below_setRow HD.out.b (by have := HGW.out; have := HG0.out; omega) _, keep_row HD.out.kb (Nat.le_refl _) _⟩
set_option maxHeartbeats 4000000 in
set_option maxRecDepth 100000 in
/-- A2Face returns a valid face. -/
theorem a2FaceC (A0 : Option Addr) (c0 : Nat) (gs : List Int) (hg : bytesL gs) (w : World) (hr0 : Kd.C (Kd.int .u8) w A0 gs.length gs) (hc0 : gs.length ≤ c0) :
    Calls Tryz.prog 5 #[.slice A0 gs.length c0] w fun e w' => ∃ ws sp gp l B d, e = .returned (.agg (FV ws sp gp (.slice B l.length d))) ∧ ws.length = 26 ∧ validB ws sp gp l = true ∧ Kd.C k33 w' B l.length l ∧ l.length ≤ d ∧ Below w.heap.size w w' := by
  go_enter Tryz.func5, Tryz.ntmps5
  obtain ⟨M, hM⟩ : ∃ M : Nat, M = 29 := ⟨_, rfl⟩
  obtain ⟨U, hU⟩ : ∃ U : TypeId, U = 28 := ⟨_, rfl⟩
  have huU := fun w => (show (underlying U).run Tryz.prog w = (underlying 28).run Tryz.prog w by rw [hU]).trans (run_underlying (P := Tryz.prog) (w := w) Tryz.underlying28)
  have hzU : ∀ w, (sizeOf U).run Tryz.prog w = .ok M w := fun w => by rw [hM, hU]; exact Tryz.sizeOf28 w
  have haU : ∀ w, (isAgg U).run Tryz.prog w = .ok true w := fun w => by rw [hU]; exact Tryz.isAgg28 w
  have hvU : ∀ w, (zeroValue U).run Tryz.prog w = .ok (.agg ZF) w := fun w => by rw [hU]; exact Tryz.zeroValue28 w
  have e2 : ∀ x, Op.load 28 x = Op.load U x := fun x => by rw [hU]
  have e3 : ∀ x y, Op.store 28 x y = Op.store U x y := fun x y => by rw [hU]
  have e4 : Op.alloc 28 = Op.alloc U := by rw [hU]
  have e5 : ∀ x, Op.build 28 x = Op.build U x := fun x => by rw [hU]
  simp only [e2, e3, e4, e5]
  clear e2 e3 e4 e5
  have hFz : ZF.size = M := by rw [hM]; rfl
  have hm1 : ¬ M < 27 := by omega
  have hm2 : ¬ M < 28 := by omega
  have HM := Lib.hid hM
  have HGS := Lib.hid hg
  have HU := Lib.hid hU
  clear hM hU hg
  have B1 := Lib.hid (below_alloc (Below.refl w.heap.size w) (.cells ZF U))
  have K1 := Lib.hid (heap_alloc_new w (.cells ZF U))
  have R0 := Lib.hid hr0
  have HC0 := Lib.hid hc0
  clear hr0 hc0
  go_wp2_with (first
    | (go_at_call 28
       with_reducible refine (spec_l00From.calls A0 c0 gs gs 0 0 w _ B1.out R0.out HC0.out rfl).mono ?_
       rintro e w2 ⟨g, rfl, hI, hb, hb2⟩
       have D2 := Lib.hid (show D0 w w2 g gs 0 w2 from ⟨⟨0, 0, hI, by decide, by decide⟩, hb, KeepBut.refl _ _ _⟩)
       have HNG := Lib.hid (show w.heap.size ≠ g from fun he => by obtain ⟨_, _, h1, _⟩ := hI; rw [← he, (hb2.block _ (blk_lt K1.out)).trans K1.out] at h1; exact absurd h1 (by rw [HU.out]; simp))
       have K2 := Lib.hid ((hb2.block _ (blk_lt K1.out)).trans K1.out)
       clear hI hb hb2)
    | (go_at_call 27
       with_reducible refine (drawnC w g gs HGS.out _ D2.out).mono ?_
       rintro e w3 ⟨ws, sp, gp, l, B, d, rfl, hx, hv, hc, hb, hk⟩
       have HX := Lib.hid hx
       have HV := Lib.hid hv
       have HC := Lib.hid hc
       have B3 := Lib.hid hb
       have hFr : ∀ v, (FV ws sp gp v).size = M := fun v => by rw [FV_size ws HX.out, HM.out]
       have K3 := Lib.hid (hk.blk K2.out HNG.out (by simp))
       have hst := storeF (xs := ws) (sp' := sp) (gp' := gp) (A := B) (n := l.length) (c := d) K3.out Z26_len HX.out
       clear hx hv hc hb hk))
  have HS2 := Lib.hid (show w.heap.size < w2.heap.size from blk_lt K2.out)
  have S3 := Lib.hid (Kd.R_step HC.out (fun k hk hlt => show (w3.setRow w.heap.size (FV ws sp gp (.slice B l.length d))).heap[k]? = w3.heap[k]? from setRow_other w3 w.heap.size k _ (by have := HS2.out; omega)))
  refine bodyPost_ret (results_face1 rfl _ _ w.heap.size U ws HX.out sp gp (.slice B l.length d) rfl (setRow_heap w3 w.heap.size _ _ U (0, 0) K3.out)) rfl ?_
  exact ⟨ws, sp, gp, l, B, d, rfl, HX.out, HV.out, (Kd.R_reads' S3.out).2.2, (Kd.R_reads' S3.out).2.1, below_setRow B3.out (Nat.le_refl _) _⟩
end Go.Proofs.YtimkkjkgbbfgbaaGreatDoor.Q
