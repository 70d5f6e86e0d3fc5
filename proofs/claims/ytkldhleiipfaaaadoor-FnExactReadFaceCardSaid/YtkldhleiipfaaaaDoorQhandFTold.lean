/- spec.l01Told, by hand: the text of a face. -/
import Derived.Test.YtkldhleiipfaaaaDoorQhandFT0
namespace Go.Proofs.YtkldhleiipfaaaaDoor.Q
open Go.RowKit Go.Proofs.YtkldhleiipfaaaaDoorW.PrintWords Go.Proofs.YtkldhleiipfaaaaDoorW.PrintLast Go.Proofs.YtkldhleiipfaaaaDoorW.PrintMore
open Go.Proofs.YtkldhleiipfaaaaDoor.Pure
set_option linter.unusedVariables false
set_option linter.unusedSimpArgs false

theorem bcell {w w' : World} {p : Addr} {v : Value} (hb : Below w.heap.size w w') (h : w.cell? p = some v) : w'.cell? p = some v := (hb.cell (World.block_lt_of_cell? w _ h)).trans h
theorem dec_spec (n : Int) (h0 : 0 ≤ n) (h1 : n ≤ 999) : spec_Decimal.f 18 n = some (itoaB n) := spec_Decimal.val 17 n h0 (by omega) (by decide)
theorem joinB_le {α : Type} (f : α → ByteArray) (l : List α) (m n : Nat) (hl : l.length ≤ n) (h : ∀ x ∈ l, (f x).size ≤ m) : (joinB (l.map f) blankT).size ≤ n * (m + 1) := by
  have := (preT_sz f l l.length m n hl h).1
  rwa [List.take_length] at this
theorem midT_size {sp gp : Int} (h0 : 0 ≤ sp ∧ sp ≤ 99) (h1 : 0 ≤ gp ∧ gp ≤ 99) : (midT sp gp).size ≤ 7 := by
  unfold midT
  have a := itoaB_small h0.1 h0.2
  have b := itoaB_small h1.1 h1.2
  have s : semiT.size = 1 := rfl
  simp only [ByteArray.size_append, s]
  omega

set_option maxHeartbeats 8000000 in
set_option maxRecDepth 100000 in
theorem toldC (ws : List Int) (hx : ws.length = 26) (sp gp : Int) (A : Option Addr) (c : Nat) (l : List S48) (g : Nat) (w : World) (hg : w.heap[g]? = some (.cells (FV ws sp gp (.slice A l.length c)) 31)) (hr : Kd.C k48 w A l.length l) (hc : l.length ≤ c) (hv : validB ws sp gp l = true) :
    Calls Tryd.prog 16 #[.pointer (some ⟨g, 0, none⟩)] w fun e w' => e = .returned (.string (faceT ws sp gp l)) ∧ Below w.heap.size w w' := by
  obtain ⟨vw, vs, vg, vl, vp⟩ := valid_facts hx hv
  have HX := Lib.hid hx
  have HR := Lib.hid hr
  have HC := Lib.hid hc
  have HG := Lib.hid hg
  have HVW := Lib.hid vw
  have HVS := Lib.hid vs
  have HVG := Lib.hid vg
  have HVL := Lib.hid vl
  have HVP := Lib.hid vp
  have HSZ := Lib.hid (fun k => preT_sz itoaB ws k 2 26 (by omega) (fun x hx => itoaB_small (by have := (vw x hx).1; omega) (by have := (vw x hx).2; omega)))
  have HPZ := Lib.hid (fun k => preT_sz prT l k 5 12 vl (fun x hx => by unfold prT; rw [ByteArray.size_append, two_sz]; have := byT_size (vp x hx).1 (vp x hx).2.1; omega))
  clear hv vw vs vg vl vp hx hr hc hg
  go_enter Tryd.func16, Tryd.ntmps16
  go_wp2
  go_loopw [3, 4] (fun v i wr => ∃ (k : Nat) (pt : ByteArray), k ≤ 26 ∧ v = .string pt ∧ i = .int .i64 k ∧ RowKit.Hid (pt = joinB ((ws.take k).map itoaB) blankT) ∧ RowKit.Hid (Below w.heap.size w wr)) (fun _ i _ => 26 - (intOf i).toNat)
  case atStart => exact ⟨0, _, Nat.zero_le _, rfl, rfl, Lib.hid rfl, Lib.hid (Below.refl _ _)⟩
  case round =>
    obtain ⟨k, pt, hk, rfl, rfl, PE, HW⟩ := hrel
    have K0 := Lib.hid ((HW.out.block g (blk_lt HG.out)).trans HG.out)
    by_cases hlt : k < 26
    · have hlt2 : (k : Int) < 26 := by omega
      have hcell := (blk_cell K0.out k).trans (FV_lt ws HX.out _ _ _ k hlt)
      have hkl : k < ws.length := by have := HX.out; omega
      have hval := HVW.out _ (List.getElem_mem hkl)
      have EX := Lib.hid (Pure.rd_get ws k hkl)
      rw [EX.out] at hcell
      obtain ⟨x, hxx⟩ : ∃ x, x = ws[k] := ⟨_, rfl⟩
      rw [← hxx] at hcell hval
      have hwr : IntKind.i64.wrap x = x := IntWalk.i64_in _ (by omega)
      have HD := Lib.hid (dec_spec x (by omega) (by omega))
      obtain ⟨ib, hib⟩ : ∃ ib, ib = itoaB x := ⟨_, rfl⟩
      rw [← hib] at HD
      have zi : ib.size ≤ 2 := by rw [hib]; exact itoaB_small (by omega) (by omega)
      have zp : pt.size ≤ 78 := by rw [PE.out]; exact (HSZ.out k).1
      obtain ⟨pp, hpp⟩ : ∃ pp, pp = preT itoaB ws k := ⟨_, rfl⟩
      have zq : pp.size ≤ 79 := by rw [hpp]; exact (HSZ.out k).2
      have PS := Lib.hid (show pp ++ ib = joinB ((ws.take (k + 1)).map itoaB) blankT from by rw [hpp, hib, hxx]; exact preT_step itoaB ws k hkl)
      have HPP := Lib.hid hpp
      have hbk : (⟨#[32]⟩ : ByteArray).size = 1 := rfl
      clear hpp hib hxx
      have z1a : decide (pt.size + 1 ≤ 9223372036854775807) = true := decide_eq_true (by omega)
      have z1b : ¬ (9223372036854775807 < pt.size + 1) := (by omega)
      have z2a : decide (pt.size + (⟨#[32]⟩ : ByteArray).size ≤ 9223372036854775807) = true := decide_eq_true (by omega)
      have z2b : ¬ (9223372036854775807 < pt.size + (⟨#[32]⟩ : ByteArray).size) := (by omega)
      have z3a : decide (pp.size + ib.size ≤ 9223372036854775807) = true := decide_eq_true (by omega)
      have z3b : ¬ (9223372036854775807 < pp.size + ib.size) := (by omega)
      have z4a : decide (pt.size + ib.size ≤ 9223372036854775807) = true := decide_eq_true (by omega)
      have z4b : ¬ (9223372036854775807 < pt.size + ib.size) := (by omega)
      by_cases h0 : 0 < k
      · have c1 : decide (0 < (k : Int)) = true := decide_eq_true (by omega)
        have c2 : decide ((k : Int) > 0) = true := decide_eq_true (by omega)
        have c3 : (0 : Int) < (k : Int) := by omega
        have EP := Lib.hid (show pt ++ (⟨#[32]⟩ : ByteArray) = pp by rw [PE.out, HPP.out]; unfold preT; rw [if_pos h0]; rfl)
        clear h0
        go_upto_region 7 with (fail)
        rw [EP.out]
        go_wp2_with (first | (go_at_call 35; with_reducible refine (spec_Decimal.calls 18 x ib _ HD.out).mono ?_; rintro e w1 ⟨rfl, hb⟩; have B1 := Lib.hid (below_step HW.out hb); clear hb))
        go_roundw
        case measure => simp only [intOf]; omega
        case rel => exact ⟨k + 1, _, by omega, rfl, by go_num, PS, B1⟩
      · have c1 : decide (0 < (k : Int)) = false := decide_eq_false (by omega)
        have c2 : decide ((k : Int) > 0) = false := decide_eq_false (by omega)
        have c3 : ¬ (0 : Int) < (k : Int) := by omega
        have EP := Lib.hid (show pt = pp by rw [PE.out, HPP.out]; unfold preT; rw [if_neg h0])
        clear h0
        obtain rfl := EP.out
        go_wp2_with (first | (go_at_call 35; with_reducible refine (spec_Decimal.calls 18 x ib _ HD.out).mono ?_; rintro e w1 ⟨rfl, hb⟩; have B1 := Lib.hid (below_step HW.out hb); clear hb))
        go_roundw
        case measure => simp only [intOf]; omega
        case rel => exact ⟨k + 1, _, by omega, rfl, by go_num, PS, B1⟩
    · have hlt2 : ¬ (k : Int) < 26 := by omega
      have PW := Lib.hid (show pt = joinB (ws.map itoaB) blankT by rw [PE.out, List.take_of_length_le (by have := HX.out; omega)])
      have zp : pt.size ≤ 78 := by rw [PE.out]; exact (HSZ.out k).1
      have c26 := (blk_cell K0.out 26).trans (FV_26 ws HX.out _ _ _)
      have c27 := (blk_cell K0.out 27).trans (FV_27 ws HX.out _ _ _)
      clear PE hk hlt
      have hsp := HVS.out
      have hgp := HVG.out
      have hw1 : IntKind.i64.wrap sp = sp := IntWalk.i64_in _ (by omega)
      have hw2 : IntKind.i64.wrap gp = gp := IntWalk.i64_in _ (by omega)
      obtain ⟨sb, hsb⟩ : ∃ sb, sb = itoaB sp := ⟨_, rfl⟩
      obtain ⟨gb, hgb⟩ : ∃ gb, gb = itoaB gp := ⟨_, rfl⟩
      have HS := Lib.hid (dec_spec sp (by omega) (by omega))
      have HGP := Lib.hid (dec_spec gp (by omega) (by omega))
      rw [← hsb] at HS
      rw [← hgb] at HGP
      have zs : sb.size ≤ 2 := by rw [hsb]; exact itoaB_small (by omega) (by omega)
      have zg : gb.size ≤ 2 := by rw [hgb]; exact itoaB_small (by omega) (by omega)
      have PM := Lib.hid (show pt ++ ((((⟨#[59]⟩ : ByteArray) ++ sb ++ ⟨#[59]⟩) ++ gb) ++ ⟨#[59]⟩) = joinB (ws.map itoaB) blankT ++ midT sp gp by rw [PW.out, hsb, hgb]; rfl)
      have hsm : (⟨#[59]⟩ : ByteArray).size = 1 := rfl
      clear hsb hgb PW hsp hgp
      have z5a : decide (1 + sb.size ≤ 9223372036854775807) = true := decide_eq_true (by omega)
      have z5b : ¬ (9223372036854775807 < 1 + sb.size) := (by omega)
      have z6a : decide ((⟨#[59]⟩ : ByteArray).size + sb.size ≤ 9223372036854775807) = true := decide_eq_true (by simp only [ByteArray.size_append, hsm]; omega)
      have z6b : ¬ (9223372036854775807 < (⟨#[59]⟩ : ByteArray).size + sb.size) := (by simp only [ByteArray.size_append, hsm]; omega)
      have z7a : decide (((⟨#[59]⟩ : ByteArray) ++ sb).size + (⟨#[59]⟩ : ByteArray).size ≤ 9223372036854775807) = true := decide_eq_true (by simp only [ByteArray.size_append, hsm]; omega)
      have z7b : ¬ (9223372036854775807 < ((⟨#[59]⟩ : ByteArray) ++ sb).size + (⟨#[59]⟩ : ByteArray).size) := (by simp only [ByteArray.size_append, hsm]; omega)
      have z8a : decide ((((⟨#[59]⟩ : ByteArray) ++ sb) ++ (⟨#[59]⟩ : ByteArray)).size + gb.size ≤ 9223372036854775807) = true := decide_eq_true (by simp only [ByteArray.size_append, hsm]; omega)
      have z8b : ¬ (9223372036854775807 < (((⟨#[59]⟩ : ByteArray) ++ sb) ++ (⟨#[59]⟩ : ByteArray)).size + gb.size) := (by simp only [ByteArray.size_append, hsm]; omega)
      have z9a : decide (((((⟨#[59]⟩ : ByteArray) ++ sb) ++ (⟨#[59]⟩ : ByteArray)) ++ gb).size + (⟨#[59]⟩ : ByteArray).size ≤ 9223372036854775807) = true := decide_eq_true (by simp only [ByteArray.size_append, hsm]; omega)
      have z9b : ¬ (9223372036854775807 < ((((⟨#[59]⟩ : ByteArray) ++ sb) ++ (⟨#[59]⟩ : ByteArray)) ++ gb).size + (⟨#[59]⟩ : ByteArray).size) := (by simp only [ByteArray.size_append, hsm]; omega)
      have z10a : decide (pt.size + (((((⟨#[59]⟩ : ByteArray) ++ sb) ++ (⟨#[59]⟩ : ByteArray)) ++ gb) ++ (⟨#[59]⟩ : ByteArray)).size ≤ 9223372036854775807) = true := decide_eq_true (by simp only [ByteArray.size_append, hsm]; omega)
      have z10b : ¬ (9223372036854775807 < pt.size + (((((⟨#[59]⟩ : ByteArray) ++ sb) ++ (⟨#[59]⟩ : ByteArray)) ++ gb) ++ (⟨#[59]⟩ : ByteArray)).size) := (by simp only [ByteArray.size_append, hsm]; omega)
      have z11a : decide ((1 + sb.size) + 1 ≤ 9223372036854775807) = true := decide_eq_true (by omega)
      have z11b : ¬ (9223372036854775807 < (1 + sb.size) + 1) := (by omega)
      have z12a : decide ((1 + sb.size + 1) + gb.size ≤ 9223372036854775807) = true := decide_eq_true (by omega)
      have z12b : ¬ (9223372036854775807 < (1 + sb.size + 1) + gb.size) := (by omega)
      have z13a : decide ((1 + sb.size + 1 + gb.size) + 1 ≤ 9223372036854775807) = true := decide_eq_true (by omega)
      have z13b : ¬ (9223372036854775807 < (1 + sb.size + 1 + gb.size) + 1) := (by omega)
      have z14a : decide (pt.size + (1 + sb.size + 1 + gb.size + 1) ≤ 9223372036854775807) = true := decide_eq_true (by omega)
      have z14b : ¬ (9223372036854775807 < pt.size + (1 + sb.size + 1 + gb.size + 1)) := (by omega)
      go_wp2
      have HW2 := Lib.hid (below_drew1 HW.out)
      have d26 : wr.drew.cell? ⟨g, 26, none⟩ = some (.int .i8 sp) := c26
      have d27 : wr.drew.cell? ⟨g, 27, none⟩ = some (.int .i8 gp) := c27
      clear c26 c27 K0 HW
      refine start_ (n := 19) (S := fun w' => Below (wr).drew.heap.size (wr).drew w') (ds := []) #[false, false, false, false, false, false, false, false, false, false, false, false, false, false, false, false, false, false, false] (by kernel_rfl) rfl rfl (Below.refl _ _) (fun hHeld => ?_)
      generalize wr.drew = wq at HW2 d26 d27 hHeld ⊢
      refine pure_ (i := 0) (N := some 27) (v := ?_) (a' := ?_) #[true, false, false, false, false, false, false, false, false, false, false, false, false, false, false, false, false, false, false] rfl rfl (by kernel_rfl) (fun _ _ _ h => h) (Or.inl ⟨by rfl, ?_⟩) ?_ ?_
      rotate_left
      · intro w'
        go_simp
        with_reducible rfl
      rotate_left
      · simp only [Act.put, List.setIfInBounds_toArray, List.set_cons_zero, List.set_cons_succ, i64_w, i32_w]
        rfl
      refine pure_ (i := 1) (N := some 28) (v := ?_) (a' := ?_) #[true, true, false, false, false, false, false, false, false, false, false, false, false, false, false, false, false, false, false] rfl rfl (by kernel_rfl) (fun _ _ _ h => h) (Or.inl ⟨by rfl, ?_⟩) ?_ ?_
      rotate_left
      · intro w'
        go_simp
        with_reducible rfl
      rotate_left
      · simp only [Act.put, List.setIfInBounds_toArray, List.set_cons_zero, List.set_cons_succ, i64_w, i32_w]
        rfl
      refine pure_ (i := 2) (N := some 29) (v := ?_) (a' := ?_) #[true, true, true, false, false, false, false, false, false, false, false, false, false, false, false, false, false, false, false] rfl rfl (by kernel_rfl) (fun _ _ _ h => h) (Or.inl ⟨by rfl, ?_⟩) ?_ ?_
      rotate_left
      · intro w'
        go_simp
        with_reducible rfl
      rotate_left
      · simp only [Act.put, List.setIfInBounds_toArray, List.set_cons_zero, List.set_cons_succ, i64_w, i32_w]
        rfl
      refine pure_ (i := 3) (N := some 30) (v := ?_) (a' := ?_) #[true, true, true, true, false, false, false, false, false, false, false, false, false, false, false, false, false, false, false] rfl rfl (by kernel_rfl) (fun _ _ _ h => h) (Or.inl ⟨by rfl, ?_⟩) ?_ ?_
      rotate_left
      · intro w'
        go_simp
        with_reducible rfl
      rotate_left
      · simp only [Act.put, List.setIfInBounds_toArray, List.set_cons_zero, List.set_cons_succ, i64_w, i32_w]
        rfl
      refine take_ (i := 4) (N := some 31) (v := ?_) (a' := ?_) #[true, true, true, true, true, false, false, false, false, false, false, false, false, false, false, false, false, false, false] rfl rfl (by kernel_rfl) (fun _ _ _ h => h) (Or.inl ⟨by rfl, ?_⟩) hHeld ?_ ?_
      rotate_left
      · rintro w' hS
        have q_d26 := bcell hS d26
        have q_d27 := bcell hS d27
        go_simp
        with_reducible rfl
      rotate_left
      · simp only [Act.put, List.setIfInBounds_toArray, List.set_cons_zero, List.set_cons_succ, i64_w, i32_w]
        rfl
      refine pure_ (i := 5) (N := some 32) (v := ?_) (a' := ?_) #[true, true, true, true, true, true, false, false, false, false, false, false, false, false, false, false, false, false, false] rfl rfl (by kernel_rfl) (fun _ _ _ h => h) (Or.inl ⟨by rfl, ?_⟩) ?_ ?_
      rotate_left
      · intro w'
        go_simp
        with_reducible rfl
      rotate_left
      · simp only [Act.put, List.setIfInBounds_toArray, List.set_cons_zero, List.set_cons_succ, i64_w, i32_w]
        rfl
      refine pure_ (i := 9) (N := some 36) (v := ?_) (a' := ?_) #[true, true, true, true, true, true, false, false, false, true, false, false, false, false, false, false, false, false, false] rfl rfl (by kernel_rfl) (fun _ _ _ h => h) (Or.inl ⟨by rfl, ?_⟩) ?_ ?_
      rotate_left
      · intro w'
        go_simp
        with_reducible rfl
      rotate_left
      · simp only [Act.put, List.setIfInBounds_toArray, List.set_cons_zero, List.set_cons_succ, i64_w, i32_w]
        rfl
      refine pure_ (i := 10) (N := some 37) (v := ?_) (a' := ?_) #[true, true, true, true, true, true, false, false, false, true, true, false, false, false, false, false, false, false, false] rfl rfl (by kernel_rfl) (fun _ _ _ h => h) (Or.inl ⟨by rfl, ?_⟩) ?_ ?_
      rotate_left
      · intro w'
        go_simp
        with_reducible rfl
      rotate_left
      · simp only [Act.put, List.setIfInBounds_toArray, List.set_cons_zero, List.set_cons_succ, i64_w, i32_w]
        rfl
      refine pure_ (i := 11) (N := some 38) (v := ?_) (a' := ?_) #[true, true, true, true, true, true, false, false, false, true, true, true, false, false, false, false, false, false, false] rfl rfl (by kernel_rfl) (fun _ _ _ h => h) (Or.inl ⟨by rfl, ?_⟩) ?_ ?_
      rotate_left
      · intro w'
        go_simp
        with_reducible rfl
      rotate_left
      · simp only [Act.put, List.setIfInBounds_toArray, List.set_cons_zero, List.set_cons_succ, i64_w, i32_w]
        rfl
      refine take_ (i := 12) (N := some 39) (v := ?_) (a' := ?_) #[true, true, true, true, true, true, false, false, false, true, true, true, true, false, false, false, false, false, false] rfl rfl (by kernel_rfl) (fun _ _ _ h => h) (Or.inl ⟨by rfl, ?_⟩) hHeld ?_ ?_
      rotate_left
      · rintro w' hS
        have q_d26 := bcell hS d26
        have q_d27 := bcell hS d27
        go_simp
        with_reducible rfl
      rotate_left
      · simp only [Act.put, List.setIfInBounds_toArray, List.set_cons_zero, List.set_cons_succ, i64_w, i32_w]
        rfl
      refine pure_ (i := 13) (N := some 40) (v := ?_) (a' := ?_) #[true, true, true, true, true, true, false, false, false, true, true, true, true, true, false, false, false, false, false] rfl rfl (by kernel_rfl) (fun _ _ _ h => h) (Or.inl ⟨by rfl, ?_⟩) ?_ ?_
      rotate_left
      · intro w'
        go_simp
        with_reducible rfl
      rotate_left
      · simp only [Act.put, List.setIfInBounds_toArray, List.set_cons_zero, List.set_cons_succ, i64_w, i32_w]
        rfl
      refine one_ (i := 6) (N := some 33) #[true, true, true, true, true, true, true, false, false, true, true, true, true, true, false, false, false, false, false] rfl rfl (by kernel_rfl) (by decide) (fun K hK => ?_)
      refine goes_ Tryd.func35 (by kernel_rfl) rfl #[.int .i64 sp] (by rfl) rfl rfl (by (try simp only [List.map_toArray, List.map_cons, List.map_nil]); first | done | rfl | (simp only [List.length_drop, List.length_take]; rfl)) ?_
      with_reducible refine (spec_Decimal.calls 18 sp sb _ HS.out).mono ?_
      rintro e wz ⟨rfl, hb⟩
      refine ⟨_, rfl, ?_⟩
      have hS_ := below_step hHeld hb
      clear hb hHeld
      refine hK.out _ _ hS_ (fun hHeld => ?_)
      clear hK K hS_
      refine norm_ (a' := ?_) ?_ ?_
      rotate_left
      · show Act.put _ (some 33) _ = _
        simp only [Act.put, List.setIfInBounds_toArray, List.set_cons_zero, List.set_cons_succ, i64_w, i32_w]
        rfl
      refine pure_ (i := 7) (N := some 34) (v := ?_) (a' := ?_) #[true, true, true, true, true, true, true, true, false, true, true, true, true, true, false, false, false, false, false] rfl rfl (by kernel_rfl) (fun _ _ _ h => h) (Or.inl ⟨by rfl, ?_⟩) ?_ ?_
      rotate_left
      · intro w'
        go_simp
        with_reducible rfl
      rotate_left
      · simp only [Act.put, List.setIfInBounds_toArray, List.set_cons_zero, List.set_cons_succ, i64_w, i32_w]
        rfl
      refine pure_ (i := 8) (N := some 35) (v := ?_) (a' := ?_) #[true, true, true, true, true, true, true, true, true, true, true, true, true, true, false, false, false, false, false] rfl rfl (by kernel_rfl) (fun _ _ _ h => h) (Or.inl ⟨by rfl, ?_⟩) ?_ ?_
      rotate_left
      · intro w'
        go_simp
        with_reducible rfl
      rotate_left
      · simp only [Act.put, List.setIfInBounds_toArray, List.set_cons_zero, List.set_cons_succ, i64_w, i32_w]
        rfl
      refine one_ (i := 14) (N := some 41) #[true, true, true, true, true, true, true, true, true, true, true, true, true, true, true, false, false, false, false] rfl rfl (by kernel_rfl) (by decide) (fun K hK => ?_)
      refine goes_ Tryd.func35 (by kernel_rfl) rfl #[.int .i64 gp] (by rfl) rfl rfl (by (try simp only [List.map_toArray, List.map_cons, List.map_nil]); first | done | rfl | (simp only [List.length_drop, List.length_take]; rfl)) ?_
      with_reducible refine (spec_Decimal.calls 18 gp gb _ HGP.out).mono ?_
      rintro e wz ⟨rfl, hb⟩
      refine ⟨_, rfl, ?_⟩
      have hS_ := below_step hHeld hb
      clear hb hHeld
      refine hK.out _ _ hS_ (fun hHeld => ?_)
      clear hK K hS_
      refine norm_ (a' := ?_) ?_ ?_
      rotate_left
      · show Act.put _ (some 41) _ = _
        simp only [Act.put, List.setIfInBounds_toArray, List.set_cons_zero, List.set_cons_succ, i64_w, i32_w]
        rfl
      refine pure_ (i := 15) (N := some 42) (v := ?_) (a' := ?_) #[true, true, true, true, true, true, true, true, true, true, true, true, true, true, true, true, false, false, false] rfl rfl (by kernel_rfl) (fun _ _ _ h => h) (Or.inl ⟨by rfl, ?_⟩) ?_ ?_
      rotate_left
      · intro w'
        go_simp
        with_reducible rfl
      rotate_left
      · simp only [Act.put, List.setIfInBounds_toArray, List.set_cons_zero, List.set_cons_succ, i64_w, i32_w]
        rfl
      refine pure_ (i := 16) (N := some 43) (v := ?_) (a' := ?_) #[true, true, true, true, true, true, true, true, true, true, true, true, true, true, true, true, true, false, false] rfl rfl (by kernel_rfl) (fun _ _ _ h => h) (Or.inl ⟨by rfl, ?_⟩) ?_ ?_
      rotate_left
      · intro w'
        go_simp
        with_reducible rfl
      rotate_left
      · simp only [Act.put, List.setIfInBounds_toArray, List.set_cons_zero, List.set_cons_succ, i64_w, i32_w]
        rfl
      refine pure_ (i := 17) (N := some 44) (v := ?_) (a' := ?_) #[true, true, true, true, true, true, true, true, true, true, true, true, true, true, true, true, true, true, false] rfl rfl (by kernel_rfl) (fun _ _ _ h => h) (Or.inl ⟨by rfl, ?_⟩) ?_ ?_
      rotate_left
      · intro w'
        go_simp
        with_reducible rfl
      rotate_left
      · simp only [Act.put, List.setIfInBounds_toArray, List.set_cons_zero, List.set_cons_succ, i64_w, i32_w]
        rfl
      refine pure_ (i := 18) (N := some 3) (v := ?_) (a' := ?_) #[true, true, true, true, true, true, true, true, true, true, true, true, true, true, true, true, true, true, true] rfl rfl (by kernel_rfl) (fun _ _ _ h => h) (Or.inl ⟨by rfl, ?_⟩) ?_ ?_
      rotate_left
      · intro w'
        go_simp
        with_reducible rfl
      rotate_left
      · simp only [Act.put, List.setIfInBounds_toArray, List.set_cons_zero, List.set_cons_succ, i64_w, i32_w]
        rfl
      refine done_ (by kernel_rfl) ?_
      have HW3 := Lib.hid (below_step HW2.out hHeld)
      clear hHeld d26 d27 HW2
      rw [PM.out]
      have hzL : (joinB (ws.map itoaB) blankT ++ midT sp gp).size ≤ 85 := by
        rw [ByteArray.size_append]
        have h1 := joinB_le itoaB ws 2 26 (by have := HX.out; omega) (fun x hx => itoaB_small (by have := (HVW.out x hx).1; omega) (by have := (HVW.out x hx).2; omega))
        have h2 := midT_size (sp := sp) (gp := gp) (by have := HVS.out; omega) (by have := HVG.out; omega)
        omega
      obtain ⟨LF, hLF⟩ : ∃ LF, joinB (ws.map itoaB) blankT ++ midT sp gp = LF := ⟨_, rfl⟩
      rw [hLF] at hzL ⊢
      have HLF := Lib.hid hLF
      clear hLF PM zp zs zg
      go_wp2
      go_loopw [3, 5] (fun v i wr => ∃ (j : Nat) (pt : ByteArray), j ≤ l.length ∧ v = .string pt ∧ i = .int .i64 j ∧ RowKit.Hid (pt = LF ++ joinB ((l.take j).map prT) blankT) ∧ RowKit.Hid (Below w.heap.size w wr)) (fun _ i _ => l.length - (intOf i).toNat)
      case atStart => exact ⟨0, _, Nat.zero_le _, rfl, rfl, Lib.hid (by rw [List.take_zero]; exact ByteArray.append_empty.symm), HW3⟩
      case round =>
        clear HW3
        obtain ⟨j, pt, hj, rfl, rfl, PE, HW⟩ := hrel
        have K0 := Lib.hid ((HW.out.block g (blk_lt HG.out)).trans HG.out)
        have hbl : (l.length : Int) ≤ 12 := by have := HVL.out; omega
        have c28 := (blk_cell K0.out 28).trans (FV_28 ws HX.out _ _ _)
        by_cases hlj : j < l.length
        · have hlj2 : (j : Int) < (l.length : Int) := by omega
          obtain ⟨ad, rfl, hx0, hx1, hx2⟩ := at_T48 (Kd.C_below HR.out HW.out) (j : Int) (by omega) (by omega)
          simp only [Int.toNat_natCast] at hx0 hx1 hx2
          have hv5 := HVP.out _ (List.getElem_mem hlj)
          have EX := Lib.hid (rd46_get l j hlj)
          rw [EX.out] at hx0 hx1 hx2
          obtain ⟨x, hxx⟩ : ∃ x, x = l[j] := ⟨_, rfl⟩
          rw [← hxx] at hx0 hx1 hx2 hv5
          have HXX := Lib.hid hxx
          clear EX hxx
          obtain ⟨hv1, hv2, hv3⟩ := hv5
          have HB2 := Lib.hid (below_alloc (Below.refl wr.heap.size wr) (.cells #[.int .u8 x.f0, .int .u8 x.f1, .int .i8 x.f2] 48))
          have HY := Lib.hid (heap_alloc_new wr (.cells #[.int .u8 x.f0, .int .u8 x.f1, .int .i8 x.f2] 48))
          have d0 : (wr.alloc (.cells #[.int .u8 x.f0, .int .u8 x.f1, .int .i8 x.f2] 48)).cell? ⟨wr.heap.size, 0, none⟩ = some (.int .u8 x.f0) := (blk_cell HY.out 0).trans rfl
          have d1 : (wr.alloc (.cells #[.int .u8 x.f0, .int .u8 x.f1, .int .i8 x.f2] 48)).cell? ⟨wr.heap.size, 1, none⟩ = some (.int .u8 x.f1) := (blk_cell HY.out 1).trans rfl
          have d2 : (wr.alloc (.cells #[.int .u8 x.f0, .int .u8 x.f1, .int .i8 x.f2] 48)).cell? ⟨wr.heap.size, 2, none⟩ = some (.int .i8 x.f2) := (blk_cell HY.out 2).trans rfl
          obtain ⟨sb, hsb⟩ : ∃ sb, sb = strOfNums [x.f0, x.f1] := ⟨_, rfl⟩
          have zb : sb.size ≤ 2 := by rw [hsb]; exact Nat.le_refl _
          have HSB := Lib.hid hsb
          clear hsb
          have zp : pt.size ≤ 160 := by rw [PE.out, ByteArray.size_append]; have := (HPZ.out j).1; omega
          obtain ⟨pp, hpp⟩ : ∃ pp, pp = LF ++ preT prT l j := ⟨_, rfl⟩
          have zq : pp.size ≤ 161 := by rw [hpp, ByteArray.size_append]; have := (HPZ.out j).2; omega
          have HPP := Lib.hid hpp
          have hbk : (⟨#[32]⟩ : ByteArray).size = 1 := rfl
          clear hpp
          have z15a : decide (pt.size + 1 ≤ 9223372036854775807) = true := decide_eq_true (by omega)
          have z15b : ¬ (9223372036854775807 < pt.size + 1) := (by omega)
          have z16a : decide (pt.size + (⟨#[32]⟩ : ByteArray).size ≤ 9223372036854775807) = true := decide_eq_true (by omega)
          have z16b : ¬ (9223372036854775807 < pt.size + (⟨#[32]⟩ : ByteArray).size) := (by omega)
          by_cases h0 : 0 < j
          · by_cases hneg : x.f2 < 0
            · skip
              have s1 : decide (x.f2 < 0) = true := decide_eq_true hneg
              obtain ⟨n, hn⟩ : ∃ n, n = -x.f2 := ⟨_, rfl⟩
              have hn1 : IntKind.i64.wrap (-x.f2) = n := by rw [hn]; exact IntWalk.i64_in _ (by omega)
              have hn0 : 0 ≤ n ∧ n ≤ 10 := by omega
              obtain ⟨nb, hnb⟩ : ∃ nb, nb = itoaB n := ⟨_, rfl⟩
              have EB := Lib.hid (show byT x.f2 = (⟨#[45]⟩ : ByteArray) ++ nb by rw [hnb, hn]; unfold byT; rw [if_pos hneg, if_pos hneg])
              have HD := Lib.hid (dec_spec n (by omega) (by omega))
              rw [← hnb] at HD
              have zn : nb.size ≤ 2 := by rw [hnb]; exact itoaB_small (by omega) (by omega)
              clear hnb
              have hsz1 : (⟨#[45]⟩ : ByteArray).size = 1 := rfl
              have PS := Lib.hid (show pp ++ ((sb ++ (⟨#[45]⟩ : ByteArray)) ++ nb) = LF ++ joinB ((l.take (j + 1)).map prT) blankT from by
                have h5 := preT_step prT l j hlj
                rw [← h5, HPP.out, ByteArray.append_assoc]
                congr 1
                have h6 : prT l[j] = sb ++ ((⟨#[45]⟩ : ByteArray) ++ nb) := by rw [← HXX.out, HSB.out]; unfold prT; rw [EB.out]
                rw [h6, ByteArray.append_assoc])
              have z17a : decide (sb.size + 1 ≤ 9223372036854775807) = true := decide_eq_true (by omega)
              have z17b : ¬ (9223372036854775807 < sb.size + 1) := (by omega)
              have z18a : decide (sb.size + (⟨#[45]⟩ : ByteArray).size ≤ 9223372036854775807) = true := decide_eq_true (by omega)
              have z18b : ¬ (9223372036854775807 < sb.size + (⟨#[45]⟩ : ByteArray).size) := (by omega)
              have z19a : decide ((sb ++ (⟨#[45]⟩ : ByteArray)).size + nb.size ≤ 9223372036854775807) = true := decide_eq_true (by rw [ByteArray.size_append]; omega)
              have z19b : ¬ (9223372036854775807 < (sb ++ (⟨#[45]⟩ : ByteArray)).size + nb.size) := (by rw [ByteArray.size_append]; omega)
              have z20a : decide (pp.size + ((sb ++ (⟨#[45]⟩ : ByteArray)) ++ nb).size ≤ 9223372036854775807) = true := decide_eq_true (by rw [ByteArray.size_append, ByteArray.size_append]; omega)
              have z20b : ¬ (9223372036854775807 < pp.size + ((sb ++ (⟨#[45]⟩ : ByteArray)) ++ nb).size) := (by rw [ByteArray.size_append, ByteArray.size_append]; omega)
              have z21a : decide ((sb.size + 1) + nb.size ≤ 9223372036854775807) = true := decide_eq_true (by omega)
              have z21b : ¬ (9223372036854775807 < (sb.size + 1) + nb.size) := (by omega)
              have z22a : decide (pp.size + (sb.size + 1 + nb.size) ≤ 9223372036854775807) = true := decide_eq_true (by omega)
              have z22b : ¬ (9223372036854775807 < pp.size + (sb.size + 1 + nb.size)) := (by omega)
              have hx5 : IntKind.i64.wrap x.f2 = x.f2 := IntWalk.i64_in _ (by omega)
              have c1 : decide (0 < (j : Int)) = true := decide_eq_true (by omega)
              have c2 : decide ((j : Int) > 0) = true := decide_eq_true (by omega)
              have c3 : (0 : Int) < (j : Int) := by omega
              have EP := Lib.hid (show pt ++ (⟨#[32]⟩ : ByteArray) = pp by rw [PE.out, HPP.out]; unfold preT; rw [if_pos h0, ByteArray.append_assoc]; rfl)
              have HNG := Lib.hid hneg
              have HN5 := Lib.hid hn
              clear hn hneg h0 hn0
              go_upto_region 20 with (fail)
              rw [EP.out]
              have D0 : (wr.alloc (.cells #[.int .u8 x.f0, .int .u8 x.f1, .int .i8 x.f2] 48)).drew.cell? ⟨wr.heap.size, 0, none⟩ = some (.int .u8 x.f0) := d0
              have D1 : (wr.alloc (.cells #[.int .u8 x.f0, .int .u8 x.f1, .int .i8 x.f2] 48)).drew.cell? ⟨wr.heap.size, 1, none⟩ = some (.int .u8 x.f1) := d1
              have HWQ := Lib.hid (below_drew1 (below_step HW.out HB2.out))
              clear d0 d1 d2 c28 hx0 hx1 hx2 HW K0
              refine start_ (n := 14) (S := fun w' => Below ((wr.alloc (.cells #[.int .u8 x.f0, .int .u8 x.f1, .int .i8 x.f2] 48))).drew.heap.size ((wr.alloc (.cells #[.int .u8 x.f0, .int .u8 x.f1, .int .i8 x.f2] 48))).drew w') (ds := []) #[false, false, false, false, false, false, false, false, false, false, false, false, false, false] (by kernel_rfl) rfl rfl (Below.refl _ _) (fun hHeld => ?_)
              generalize (wr.alloc (.cells #[.int .u8 x.f0, .int .u8 x.f1, .int .i8 x.f2] 48)).drew = wq at D0 D1 HWQ hHeld ⊢
              refine pure_ (i := 0) (N := some 72) (v := ?_) (a' := ?_) #[true, false, false, false, false, false, false, false, false, false, false, false, false, false] rfl rfl (by kernel_rfl) (fun _ _ _ h => h) (Or.inl ⟨by rfl, ?_⟩) ?_ ?_
              rotate_left
              · intro w'
                go_simp
                with_reducible rfl
              rotate_left
              · simp only [Act.put, List.setIfInBounds_toArray, List.set_cons_zero, List.set_cons_succ, i64_w, i32_w]
                rfl
              refine pure_ (i := 1) (N := some 73) (v := ?_) (a' := ?_) #[true, true, false, false, false, false, false, false, false, false, false, false, false, false] rfl rfl (by kernel_rfl) (fun _ _ _ h => h) (Or.inl ⟨by rfl, ?_⟩) ?_ ?_
              rotate_left
              · intro w'
                go_simp
                with_reducible rfl
              rotate_left
              · simp only [Act.put, List.setIfInBounds_toArray, List.set_cons_zero, List.set_cons_succ, i64_w, i32_w]
                rfl
              refine take_ (i := 2) (N := some 74) (v := ?_) (a' := ?_) #[true, true, true, false, false, false, false, false, false, false, false, false, false, false] rfl rfl (by kernel_rfl) (fun _ _ _ h => h) (Or.inl ⟨by rfl, ?_⟩) hHeld ?_ ?_
              rotate_left
              · rintro w' hS
                have q_D0 := bcell hS D0
                have q_D1 := bcell hS D1
                go_simp
                with_reducible rfl
              rotate_left
              · simp only [Act.put, List.setIfInBounds_toArray, List.set_cons_zero, List.set_cons_succ, i64_w, i32_w]
                rfl
              refine pure_ (i := 3) (N := some 75) (v := ?_) (a' := ?_) #[true, true, true, true, false, false, false, false, false, false, false, false, false, false] rfl rfl (by kernel_rfl) (fun _ _ _ h => h) (Or.inl ⟨by rfl, ?_⟩) ?_ ?_
              rotate_left
              · intro w'
                go_simp
                with_reducible rfl
              rotate_left
              · simp only [Act.put, List.setIfInBounds_toArray, List.set_cons_zero, List.set_cons_succ, i64_w, i32_w]
                rfl
              refine take_ (i := 4) (N := some 76) (v := ?_) (a' := ?_) #[true, true, true, true, true, false, false, false, false, false, false, false, false, false] rfl rfl (by kernel_rfl) (fun _ _ _ h => h) (Or.inl ⟨by rfl, ?_⟩) hHeld ?_ ?_
              rotate_left
              · rintro w' hS
                have q_D0 := bcell hS D0
                have q_D1 := bcell hS D1
                go_simp
                with_reducible rfl
              rotate_left
              · simp only [Act.put, List.setIfInBounds_toArray, List.set_cons_zero, List.set_cons_succ, i64_w, i32_w]
                rfl
              refine pure_ (i := 7) (N := some 79) (v := ?_) (a' := ?_) #[true, true, true, true, true, false, false, true, false, false, false, false, false, false] rfl rfl (by kernel_rfl) (fun _ _ _ h => h) (Or.inl ⟨by rfl, ?_⟩) ?_ ?_
              rotate_left
              · intro w'
                go_simp
                with_reducible rfl
              rotate_left
              · simp only [Act.put, List.setIfInBounds_toArray, List.set_cons_zero, List.set_cons_succ, i64_w, i32_w]
                rfl
              refine pure_ (i := 9) (N := some 81) (v := ?_) (a' := ?_) #[true, true, true, true, true, false, false, true, false, true, false, false, false, false] rfl rfl (by kernel_rfl) (fun _ _ _ h => h) (Or.inl ⟨by rfl, ?_⟩) ?_ ?_
              rotate_left
              · intro w'
                go_simp
                with_reducible rfl
              rotate_left
              · simp only [Act.put, List.setIfInBounds_toArray, List.set_cons_zero, List.set_cons_succ, i64_w, i32_w]
                rfl
              refine two_ (i := 5) (j := 10) (Ni := some 77) (Nj := some 82) #[true, true, true, true, true, true, false, true, false, true, false, false, false, false] #[true, true, true, true, true, false, false, true, false, true, true, false, false, false] rfl rfl rfl rfl (by kernel_rfl) (by decide) (by decide) (fun K hK => ?_) (fun K hK => ?_)
              · skip
                refine Kd.R_lit_step (Kd.int .u8) _ 5 ?hgu1 (N := 77) ?hdu1 (xs := ([x.f0, x.f1] : List Int)) (inner := [.int .u8 x.f0, .int .u8 x.f1]) (ok := fun _ => True) (okp := fun _ => True) ?hru1 ?hpu1 (fun _ hk => hk) trivial (Below.refl _ _) (Nat.le_refl _) (by simp) ?_
                (case hdu1 => rfl)
                (case hgu1 => rfl)
                (case hru1 => first | (go_simp; done) | (go_simp; rfl))
                (case hpu1 => exact (Reps.one (show Kd.M (Kd.int .u8) _ _ _ x.f0 [.int .u8 x.f0] from rfl) (Reps.one (show Kd.M (Kd.int .u8) _ _ _ x.f1 [.int .u8 x.f1] from rfl) (Reps.none _ _))))
                intro vl wz ho hb hg_ hnew_
                clear hg_ hnew_
                have HLT := Lib.hid ho
                clear ho
                have hS_ := below_step hHeld hb
                clear hb hHeld
                refine hK.out _ _ hS_ (fun hHeld => ?_)
                clear hK K hS_
                refine norm_ (a' := ?_) ?_ ?_
                rotate_left
                · show Act.put _ (some 77) _ = _
                  simp only [Act.put, List.setIfInBounds_toArray, List.set_cons_zero, List.set_cons_succ, i64_w, i32_w]
                  rfl
                refine two_ (i := 6) (j := 10) (Ni := some 78) (Nj := some 82) #[true, true, true, true, true, true, true, true, false, true, false, false, false, false] #[true, true, true, true, true, true, false, true, false, true, true, false, false, false] rfl rfl rfl rfl (by kernel_rfl) (by decide) (by decide) (fun K hK => ?_) (fun K hK => ?_)
                · skip
                  have hcv := own_string (P := Tryd.prog) Tryd.underlying50 Tryd.underlying5 Tryd.underlying9 (Kd.own_of_R HLT.out)
                  rw [← HSB.out] at hcv
                  refine value_ (w1 := ?_) (v := ?_) (by rfl) rfl ?_ ?_
                  rotate_left 2
                  · go_simp
                    constructor
                    · rfl
                    · rfl
                  clear hcv HLT
                  refine hK.out _ _ hHeld (fun hHeld => ?_)
                  clear hK K
                  refine norm_ (a' := ?_) ?_ ?_
                  rotate_left
                  · show Act.put _ (some 78) _ = _
                    simp only [Act.put, List.setIfInBounds_toArray, List.set_cons_zero, List.set_cons_succ, i64_w, i32_w]
                    rfl
                  refine pure_ (i := 8) (N := some 80) (v := ?_) (a' := ?_) #[true, true, true, true, true, true, true, true, true, true, false, false, false, false] rfl rfl (by kernel_rfl) (fun _ _ _ h => h) (Or.inl ⟨by rfl, ?_⟩) ?_ ?_
                  rotate_left
                  · intro w'
                    go_simp
                    with_reducible rfl
                  rotate_left
                  · simp only [Act.put, List.setIfInBounds_toArray, List.set_cons_zero, List.set_cons_succ, i64_w, i32_w]
                    rfl
                  refine one_ (i := 10) (N := some 82) #[true, true, true, true, true, true, true, true, true, true, true, false, false, false] rfl rfl (by kernel_rfl) (by decide) (fun K hK => ?_)
                  refine goes_ Tryd.func35 (by kernel_rfl) rfl #[.int .i64 n] (by rfl) rfl rfl (by (try simp only [List.map_toArray, List.map_cons, List.map_nil]); first | done | rfl | (simp only [List.length_drop, List.length_take]; rfl)) ?_
                  with_reducible refine (spec_Decimal.calls 18 n nb _ HD.out).mono ?_
                  rintro e wz ⟨rfl, hb⟩
                  refine ⟨_, rfl, ?_⟩
                  have hS_ := below_step hHeld hb
                  clear hb hHeld
                  refine hK.out _ _ hS_ (fun hHeld => ?_)
                  clear hK K hS_
                  refine norm_ (a' := ?_) ?_ ?_
                  rotate_left
                  · show Act.put _ (some 82) _ = _
                    simp only [Act.put, List.setIfInBounds_toArray, List.set_cons_zero, List.set_cons_succ, i64_w, i32_w]
                    rfl
                  refine pure_ (i := 11) (N := some 83) (v := ?_) (a' := ?_) #[true, true, true, true, true, true, true, true, true, true, true, true, false, false] rfl rfl (by kernel_rfl) (fun _ _ _ h => h) (Or.inl ⟨by rfl, ?_⟩) ?_ ?_
                  rotate_left
                  · intro w'
                    go_simp
                    with_reducible rfl
                  rotate_left
                  · simp only [Act.put, List.setIfInBounds_toArray, List.set_cons_zero, List.set_cons_succ, i64_w, i32_w]
                    rfl
                  refine pure_ (i := 12) (N := some 84) (v := ?_) (a' := ?_) #[true, true, true, true, true, true, true, true, true, true, true, true, true, false] rfl rfl (by kernel_rfl) (fun _ _ _ h => h) (Or.inl ⟨by rfl, ?_⟩) ?_ ?_
                  rotate_left
                  · intro w'
                    go_simp
                    with_reducible rfl
                  rotate_left
                  · simp only [Act.put, List.setIfInBounds_toArray, List.set_cons_zero, List.set_cons_succ, i64_w, i32_w]
                    rfl
                  refine pure_ (i := 13) (N := some 3) (v := ?_) (a' := ?_) #[true, true, true, true, true, true, true, true, true, true, true, true, true, true] rfl rfl (by kernel_rfl) (fun _ _ _ h => h) (Or.inl ⟨by rfl, ?_⟩) ?_ ?_
                  rotate_left
                  · intro w'
                    go_simp
                    with_reducible rfl
                  rotate_left
                  · simp only [Act.put, List.setIfInBounds_toArray, List.set_cons_zero, List.set_cons_succ, i64_w, i32_w]
                    rfl
                  refine done_ (by kernel_rfl) ?_
                  go_wp2
                  go_roundw
                  case measure => simp only [intOf]; omega
                  case rel => exact ⟨j + 1, _, by omega, rfl, by go_num, PS, Lib.hid (below_step HWQ.out hHeld)⟩
                · skip
                  refine goes_ Tryd.func35 (by kernel_rfl) rfl #[.int .i64 n] (by rfl) rfl rfl (by (try simp only [List.map_toArray, List.map_cons, List.map_nil]); first | done | rfl | (simp only [List.length_drop, List.length_take]; rfl)) ?_
                  with_reducible refine (spec_Decimal.calls 18 n nb _ HD.out).mono ?_
                  rintro e wz ⟨rfl, hb⟩
                  refine ⟨_, rfl, ?_⟩
                  have m_HLT := Lib.hid (Kd.R_below HLT.out hb)
                  clear HLT
                  have HLT := m_HLT
                  clear m_HLT
                  have hS_ := below_step hHeld hb
                  clear hb hHeld
                  refine hK.out _ _ hS_ (fun hHeld => ?_)
                  clear hK K hS_
                  refine norm_ (a' := ?_) ?_ ?_
                  rotate_left
                  · show Act.put _ (some 82) _ = _
                    simp only [Act.put, List.setIfInBounds_toArray, List.set_cons_zero, List.set_cons_succ, i64_w, i32_w]
                    rfl
                  refine one_ (i := 6) (N := some 78) #[true, true, true, true, true, true, true, true, false, true, true, false, false, false] rfl rfl (by kernel_rfl) (by decide) (fun K hK => ?_)
                  have hcv := own_string (P := Tryd.prog) Tryd.underlying50 Tryd.underlying5 Tryd.underlying9 (Kd.own_of_R HLT.out)
                  rw [← HSB.out] at hcv
                  refine value_ (w1 := ?_) (v := ?_) (by rfl) rfl ?_ ?_
                  rotate_left 2
                  · go_simp
                    constructor
                    · rfl
                    · rfl
                  clear hcv HLT
                  refine hK.out _ _ hHeld (fun hHeld => ?_)
                  clear hK K
                  refine norm_ (a' := ?_) ?_ ?_
                  rotate_left
                  · show Act.put _ (some 78) _ = _
                    simp only [Act.put, List.setIfInBounds_toArray, List.set_cons_zero, List.set_cons_succ, i64_w, i32_w]
                    rfl
                  refine pure_ (i := 8) (N := some 80) (v := ?_) (a' := ?_) #[true, true, true, true, true, true, true, true, true, true, true, false, false, false] rfl rfl (by kernel_rfl) (fun _ _ _ h => h) (Or.inl ⟨by rfl, ?_⟩) ?_ ?_
                  rotate_left
                  · intro w'
                    go_simp
                    with_reducible rfl
                  rotate_left
                  · simp only [Act.put, List.setIfInBounds_toArray, List.set_cons_zero, List.set_cons_succ, i64_w, i32_w]
                    rfl
                  refine pure_ (i := 11) (N := some 83) (v := ?_) (a' := ?_) #[true, true, true, true, true, true, true, true, true, true, true, true, false, false] rfl rfl (by kernel_rfl) (fun _ _ _ h => h) (Or.inl ⟨by rfl, ?_⟩) ?_ ?_
                  rotate_left
                  · intro w'
                    go_simp
                    with_reducible rfl
                  rotate_left
                  · simp only [Act.put, List.setIfInBounds_toArray, List.set_cons_zero, List.set_cons_succ, i64_w, i32_w]
                    rfl
                  refine pure_ (i := 12) (N := some 84) (v := ?_) (a' := ?_) #[true, true, true, true, true, true, true, true, true, true, true, true, true, false] rfl rfl (by kernel_rfl) (fun _ _ _ h => h) (Or.inl ⟨by rfl, ?_⟩) ?_ ?_
                  rotate_left
                  · intro w'
                    go_simp
                    with_reducible rfl
                  rotate_left
                  · simp only [Act.put, List.setIfInBounds_toArray, List.set_cons_zero, List.set_cons_succ, i64_w, i32_w]
                    rfl
                  refine pure_ (i := 13) (N := some 3) (v := ?_) (a' := ?_) #[true, true, true, true, true, true, true, true, true, true, true, true, true, true] rfl rfl (by kernel_rfl) (fun _ _ _ h => h) (Or.inl ⟨by rfl, ?_⟩) ?_ ?_
                  rotate_left
                  · intro w'
                    go_simp
                    with_reducible rfl
                  rotate_left
                  · simp only [Act.put, List.setIfInBounds_toArray, List.set_cons_zero, List.set_cons_succ, i64_w, i32_w]
                    rfl
                  refine done_ (by kernel_rfl) ?_
                  go_wp2
                  go_roundw
                  case measure => simp only [intOf]; omega
                  case rel => exact ⟨j + 1, _, by omega, rfl, by go_num, PS, Lib.hid (below_step HWQ.out hHeld)⟩
              · skip
                refine goes_ Tryd.func35 (by kernel_rfl) rfl #[.int .i64 n] (by rfl) rfl rfl (by (try simp only [List.map_toArray, List.map_cons, List.map_nil]); first | done | rfl | (simp only [List.length_drop, List.length_take]; rfl)) ?_
                with_reducible refine (spec_Decimal.calls 18 n nb _ HD.out).mono ?_
                rintro e wz ⟨rfl, hb⟩
                refine ⟨_, rfl, ?_⟩
                have hS_ := below_step hHeld hb
                clear hb hHeld
                refine hK.out _ _ hS_ (fun hHeld => ?_)
                clear hK K hS_
                refine norm_ (a' := ?_) ?_ ?_
                rotate_left
                · show Act.put _ (some 82) _ = _
                  simp only [Act.put, List.setIfInBounds_toArray, List.set_cons_zero, List.set_cons_succ, i64_w, i32_w]
                  rfl
                refine one_ (i := 5) (N := some 77) #[true, true, true, true, true, true, false, true, false, true, true, false, false, false] rfl rfl (by kernel_rfl) (by decide) (fun K hK => ?_)
                refine Kd.R_lit_step (Kd.int .u8) _ 5 ?hgu2 (N := 77) ?hdu2 (xs := ([x.f0, x.f1] : List Int)) (inner := [.int .u8 x.f0, .int .u8 x.f1]) (ok := fun _ => True) (okp := fun _ => True) ?hru2 ?hpu2 (fun _ hk => hk) trivial (Below.refl _ _) (Nat.le_refl _) (by simp) ?_
                (case hdu2 => rfl)
                (case hgu2 => rfl)
                (case hru2 => first | (go_simp; done) | (go_simp; rfl))
                (case hpu2 => exact (Reps.one (show Kd.M (Kd.int .u8) _ _ _ x.f0 [.int .u8 x.f0] from rfl) (Reps.one (show Kd.M (Kd.int .u8) _ _ _ x.f1 [.int .u8 x.f1] from rfl) (Reps.none _ _))))
                intro vl wz ho hb hg_ hnew_
                clear hg_ hnew_
                have HLT := Lib.hid ho
                clear ho
                have hS_ := below_step hHeld hb
                clear hb hHeld
                refine hK.out _ _ hS_ (fun hHeld => ?_)
                clear hK K hS_
                refine norm_ (a' := ?_) ?_ ?_
                rotate_left
                · show Act.put _ (some 77) _ = _
                  simp only [Act.put, List.setIfInBounds_toArray, List.set_cons_zero, List.set_cons_succ, i64_w, i32_w]
                  rfl
                refine one_ (i := 6) (N := some 78) #[true, true, true, true, true, true, true, true, false, true, true, false, false, false] rfl rfl (by kernel_rfl) (by decide) (fun K hK => ?_)
                have hcv := own_string (P := Tryd.prog) Tryd.underlying50 Tryd.underlying5 Tryd.underlying9 (Kd.own_of_R HLT.out)
                rw [← HSB.out] at hcv
                refine value_ (w1 := ?_) (v := ?_) (by rfl) rfl ?_ ?_
                rotate_left 2
                · go_simp
                  constructor
                  · rfl
                  · rfl
                clear hcv HLT
                refine hK.out _ _ hHeld (fun hHeld => ?_)
                clear hK K
                refine norm_ (a' := ?_) ?_ ?_
                rotate_left
                · show Act.put _ (some 78) _ = _
                  simp only [Act.put, List.setIfInBounds_toArray, List.set_cons_zero, List.set_cons_succ, i64_w, i32_w]
                  rfl
                refine pure_ (i := 8) (N := some 80) (v := ?_) (a' := ?_) #[true, true, true, true, true, true, true, true, true, true, true, false, false, false] rfl rfl (by kernel_rfl) (fun _ _ _ h => h) (Or.inl ⟨by rfl, ?_⟩) ?_ ?_
                rotate_left
                · intro w'
                  go_simp
                  with_reducible rfl
                rotate_left
                · simp only [Act.put, List.setIfInBounds_toArray, List.set_cons_zero, List.set_cons_succ, i64_w, i32_w]
                  rfl
                refine pure_ (i := 11) (N := some 83) (v := ?_) (a' := ?_) #[true, true, true, true, true, true, true, true, true, true, true, true, false, false] rfl rfl (by kernel_rfl) (fun _ _ _ h => h) (Or.inl ⟨by rfl, ?_⟩) ?_ ?_
                rotate_left
                · intro w'
                  go_simp
                  with_reducible rfl
                rotate_left
                · simp only [Act.put, List.setIfInBounds_toArray, List.set_cons_zero, List.set_cons_succ, i64_w, i32_w]
                  rfl
                refine pure_ (i := 12) (N := some 84) (v := ?_) (a' := ?_) #[true, true, true, true, true, true, true, true, true, true, true, true, true, false] rfl rfl (by kernel_rfl) (fun _ _ _ h => h) (Or.inl ⟨by rfl, ?_⟩) ?_ ?_
                rotate_left
                · intro w'
                  go_simp
                  with_reducible rfl
                rotate_left
                · simp only [Act.put, List.setIfInBounds_toArray, List.set_cons_zero, List.set_cons_succ, i64_w, i32_w]
                  rfl
                refine pure_ (i := 13) (N := some 3) (v := ?_) (a' := ?_) #[true, true, true, true, true, true, true, true, true, true, true, true, true, true] rfl rfl (by kernel_rfl) (fun _ _ _ h => h) (Or.inl ⟨by rfl, ?_⟩) ?_ ?_
                rotate_left
                · intro w'
                  go_simp
                  with_reducible rfl
                rotate_left
                · simp only [Act.put, List.setIfInBounds_toArray, List.set_cons_zero, List.set_cons_succ, i64_w, i32_w]
                  rfl
                refine done_ (by kernel_rfl) ?_
                go_wp2
                go_roundw
                case measure => simp only [intOf]; omega
                case rel => exact ⟨j + 1, _, by omega, rfl, by go_num, PS, Lib.hid (below_step HWQ.out hHeld)⟩
            · skip
              have s1 : decide (x.f2 < 0) = false := decide_eq_false hneg
              have hn0 : 0 ≤ x.f2 ∧ x.f2 ≤ 10 := by omega
              obtain ⟨nb, hnb⟩ : ∃ nb, nb = itoaB x.f2 := ⟨_, rfl⟩
              have EB := Lib.hid (show byT x.f2 = (⟨#[43]⟩ : ByteArray) ++ nb by rw [hnb]; unfold byT; rw [if_neg hneg, if_neg hneg])
              have HD := Lib.hid (dec_spec x.f2 (by omega) (by omega))
              rw [← hnb] at HD
              have zn : nb.size ≤ 2 := by rw [hnb]; exact itoaB_small (by omega) (by omega)
              clear hnb
              have hsz1 : (⟨#[43]⟩ : ByteArray).size = 1 := rfl
              have PS := Lib.hid (show pp ++ ((sb ++ (⟨#[43]⟩ : ByteArray)) ++ nb) = LF ++ joinB ((l.take (j + 1)).map prT) blankT from by
                have h5 := preT_step prT l j hlj
                rw [← h5, HPP.out, ByteArray.append_assoc]
                congr 1
                have h6 : prT l[j] = sb ++ ((⟨#[43]⟩ : ByteArray) ++ nb) := by rw [← HXX.out, HSB.out]; unfold prT; rw [EB.out]
                rw [h6, ByteArray.append_assoc])
              have z23a : decide (sb.size + 1 ≤ 9223372036854775807) = true := decide_eq_true (by omega)
              have z23b : ¬ (9223372036854775807 < sb.size + 1) := (by omega)
              have z24a : decide (sb.size + (⟨#[43]⟩ : ByteArray).size ≤ 9223372036854775807) = true := decide_eq_true (by omega)
              have z24b : ¬ (9223372036854775807 < sb.size + (⟨#[43]⟩ : ByteArray).size) := (by omega)
              have z25a : decide ((sb ++ (⟨#[43]⟩ : ByteArray)).size + nb.size ≤ 9223372036854775807) = true := decide_eq_true (by rw [ByteArray.size_append]; omega)
              have z25b : ¬ (9223372036854775807 < (sb ++ (⟨#[43]⟩ : ByteArray)).size + nb.size) := (by rw [ByteArray.size_append]; omega)
              have z26a : decide (pp.size + ((sb ++ (⟨#[43]⟩ : ByteArray)) ++ nb).size ≤ 9223372036854775807) = true := decide_eq_true (by rw [ByteArray.size_append, ByteArray.size_append]; omega)
              have z26b : ¬ (9223372036854775807 < pp.size + ((sb ++ (⟨#[43]⟩ : ByteArray)) ++ nb).size) := (by rw [ByteArray.size_append, ByteArray.size_append]; omega)
              have z27a : decide ((sb.size + 1) + nb.size ≤ 9223372036854775807) = true := decide_eq_true (by omega)
              have z27b : ¬ (9223372036854775807 < (sb.size + 1) + nb.size) := (by omega)
              have z28a : decide (pp.size + (sb.size + 1 + nb.size) ≤ 9223372036854775807) = true := decide_eq_true (by omega)
              have z28b : ¬ (9223372036854775807 < pp.size + (sb.size + 1 + nb.size)) := (by omega)
              have hx5 : IntKind.i64.wrap x.f2 = x.f2 := IntWalk.i64_in _ (by omega)
              have c1 : decide (0 < (j : Int)) = true := decide_eq_true (by omega)
              have c2 : decide ((j : Int) > 0) = true := decide_eq_true (by omega)
              have c3 : (0 : Int) < (j : Int) := by omega
              have EP := Lib.hid (show pt ++ (⟨#[32]⟩ : ByteArray) = pp by rw [PE.out, HPP.out]; unfold preT; rw [if_pos h0, ByteArray.append_assoc]; rfl)
              have HNG := Lib.hid hneg
              clear hneg h0 hn0
              go_upto_region 20 with (fail)
              rw [EP.out]
              have D0 : (wr.alloc (.cells #[.int .u8 x.f0, .int .u8 x.f1, .int .i8 x.f2] 48)).drew.cell? ⟨wr.heap.size, 0, none⟩ = some (.int .u8 x.f0) := d0
              have D1 : (wr.alloc (.cells #[.int .u8 x.f0, .int .u8 x.f1, .int .i8 x.f2] 48)).drew.cell? ⟨wr.heap.size, 1, none⟩ = some (.int .u8 x.f1) := d1
              have HWQ := Lib.hid (below_drew1 (below_step HW.out HB2.out))
              clear d0 d1 d2 c28 hx0 hx1 hx2 HW K0
              refine start_ (n := 14) (S := fun w' => Below ((wr.alloc (.cells #[.int .u8 x.f0, .int .u8 x.f1, .int .i8 x.f2] 48))).drew.heap.size ((wr.alloc (.cells #[.int .u8 x.f0, .int .u8 x.f1, .int .i8 x.f2] 48))).drew w') (ds := []) #[false, false, false, false, false, false, false, false, false, false, false, false, false, false] (by kernel_rfl) rfl rfl (Below.refl _ _) (fun hHeld => ?_)
              generalize (wr.alloc (.cells #[.int .u8 x.f0, .int .u8 x.f1, .int .i8 x.f2] 48)).drew = wq at D0 D1 HWQ hHeld ⊢
              refine pure_ (i := 0) (N := some 72) (v := ?_) (a' := ?_) #[true, false, false, false, false, false, false, false, false, false, false, false, false, false] rfl rfl (by kernel_rfl) (fun _ _ _ h => h) (Or.inl ⟨by rfl, ?_⟩) ?_ ?_
              rotate_left
              · intro w'
                go_simp
                with_reducible rfl
              rotate_left
              · simp only [Act.put, List.setIfInBounds_toArray, List.set_cons_zero, List.set_cons_succ, i64_w, i32_w]
                rfl
              refine pure_ (i := 1) (N := some 73) (v := ?_) (a' := ?_) #[true, true, false, false, false, false, false, false, false, false, false, false, false, false] rfl rfl (by kernel_rfl) (fun _ _ _ h => h) (Or.inl ⟨by rfl, ?_⟩) ?_ ?_
              rotate_left
              · intro w'
                go_simp
                with_reducible rfl
              rotate_left
              · simp only [Act.put, List.setIfInBounds_toArray, List.set_cons_zero, List.set_cons_succ, i64_w, i32_w]
                rfl
              refine take_ (i := 2) (N := some 74) (v := ?_) (a' := ?_) #[true, true, true, false, false, false, false, false, false, false, false, false, false, false] rfl rfl (by kernel_rfl) (fun _ _ _ h => h) (Or.inl ⟨by rfl, ?_⟩) hHeld ?_ ?_
              rotate_left
              · rintro w' hS
                have q_D0 := bcell hS D0
                have q_D1 := bcell hS D1
                go_simp
                with_reducible rfl
              rotate_left
              · simp only [Act.put, List.setIfInBounds_toArray, List.set_cons_zero, List.set_cons_succ, i64_w, i32_w]
                rfl
              refine pure_ (i := 3) (N := some 75) (v := ?_) (a' := ?_) #[true, true, true, true, false, false, false, false, false, false, false, false, false, false] rfl rfl (by kernel_rfl) (fun _ _ _ h => h) (Or.inl ⟨by rfl, ?_⟩) ?_ ?_
              rotate_left
              · intro w'
                go_simp
                with_reducible rfl
              rotate_left
              · simp only [Act.put, List.setIfInBounds_toArray, List.set_cons_zero, List.set_cons_succ, i64_w, i32_w]
                rfl
              refine take_ (i := 4) (N := some 76) (v := ?_) (a' := ?_) #[true, true, true, true, true, false, false, false, false, false, false, false, false, false] rfl rfl (by kernel_rfl) (fun _ _ _ h => h) (Or.inl ⟨by rfl, ?_⟩) hHeld ?_ ?_
              rotate_left
              · rintro w' hS
                have q_D0 := bcell hS D0
                have q_D1 := bcell hS D1
                go_simp
                with_reducible rfl
              rotate_left
              · simp only [Act.put, List.setIfInBounds_toArray, List.set_cons_zero, List.set_cons_succ, i64_w, i32_w]
                rfl
              refine pure_ (i := 7) (N := some 79) (v := ?_) (a' := ?_) #[true, true, true, true, true, false, false, true, false, false, false, false, false, false] rfl rfl (by kernel_rfl) (fun _ _ _ h => h) (Or.inl ⟨by rfl, ?_⟩) ?_ ?_
              rotate_left
              · intro w'
                go_simp
                with_reducible rfl
              rotate_left
              · simp only [Act.put, List.setIfInBounds_toArray, List.set_cons_zero, List.set_cons_succ, i64_w, i32_w]
                rfl
              refine pure_ (i := 9) (N := some 81) (v := ?_) (a' := ?_) #[true, true, true, true, true, false, false, true, false, true, false, false, false, false] rfl rfl (by kernel_rfl) (fun _ _ _ h => h) (Or.inl ⟨by rfl, ?_⟩) ?_ ?_
              rotate_left
              · intro w'
                go_simp
                with_reducible rfl
              rotate_left
              · simp only [Act.put, List.setIfInBounds_toArray, List.set_cons_zero, List.set_cons_succ, i64_w, i32_w]
                rfl
              refine two_ (i := 5) (j := 10) (Ni := some 77) (Nj := some 82) #[true, true, true, true, true, true, false, true, false, true, false, false, false, false] #[true, true, true, true, true, false, false, true, false, true, true, false, false, false] rfl rfl rfl rfl (by kernel_rfl) (by decide) (by decide) (fun K hK => ?_) (fun K hK => ?_)
              · skip
                refine Kd.R_lit_step (Kd.int .u8) _ 5 ?hgu1 (N := 77) ?hdu1 (xs := ([x.f0, x.f1] : List Int)) (inner := [.int .u8 x.f0, .int .u8 x.f1]) (ok := fun _ => True) (okp := fun _ => True) ?hru1 ?hpu1 (fun _ hk => hk) trivial (Below.refl _ _) (Nat.le_refl _) (by simp) ?_
                (case hdu1 => rfl)
                (case hgu1 => rfl)
                (case hru1 => first | (go_simp; done) | (go_simp; rfl))
                (case hpu1 => exact (Reps.one (show Kd.M (Kd.int .u8) _ _ _ x.f0 [.int .u8 x.f0] from rfl) (Reps.one (show Kd.M (Kd.int .u8) _ _ _ x.f1 [.int .u8 x.f1] from rfl) (Reps.none _ _))))
                intro vl wz ho hb hg_ hnew_
                clear hg_ hnew_
                have HLT := Lib.hid ho
                clear ho
                have hS_ := below_step hHeld hb
                clear hb hHeld
                refine hK.out _ _ hS_ (fun hHeld => ?_)
                clear hK K hS_
                refine norm_ (a' := ?_) ?_ ?_
                rotate_left
                · show Act.put _ (some 77) _ = _
                  simp only [Act.put, List.setIfInBounds_toArray, List.set_cons_zero, List.set_cons_succ, i64_w, i32_w]
                  rfl
                refine two_ (i := 6) (j := 10) (Ni := some 78) (Nj := some 82) #[true, true, true, true, true, true, true, true, false, true, false, false, false, false] #[true, true, true, true, true, true, false, true, false, true, true, false, false, false] rfl rfl rfl rfl (by kernel_rfl) (by decide) (by decide) (fun K hK => ?_) (fun K hK => ?_)
                · skip
                  have hcv := own_string (P := Tryd.prog) Tryd.underlying50 Tryd.underlying5 Tryd.underlying9 (Kd.own_of_R HLT.out)
                  rw [← HSB.out] at hcv
                  refine value_ (w1 := ?_) (v := ?_) (by rfl) rfl ?_ ?_
                  rotate_left 2
                  · go_simp
                    constructor
                    · rfl
                    · rfl
                  clear hcv HLT
                  refine hK.out _ _ hHeld (fun hHeld => ?_)
                  clear hK K
                  refine norm_ (a' := ?_) ?_ ?_
                  rotate_left
                  · show Act.put _ (some 78) _ = _
                    simp only [Act.put, List.setIfInBounds_toArray, List.set_cons_zero, List.set_cons_succ, i64_w, i32_w]
                    rfl
                  refine pure_ (i := 8) (N := some 80) (v := ?_) (a' := ?_) #[true, true, true, true, true, true, true, true, true, true, false, false, false, false] rfl rfl (by kernel_rfl) (fun _ _ _ h => h) (Or.inl ⟨by rfl, ?_⟩) ?_ ?_
                  rotate_left
                  · intro w'
                    go_simp
                    with_reducible rfl
                  rotate_left
                  · simp only [Act.put, List.setIfInBounds_toArray, List.set_cons_zero, List.set_cons_succ, i64_w, i32_w]
                    rfl
                  refine one_ (i := 10) (N := some 82) #[true, true, true, true, true, true, true, true, true, true, true, false, false, false] rfl rfl (by kernel_rfl) (by decide) (fun K hK => ?_)
                  refine goes_ Tryd.func35 (by kernel_rfl) rfl #[.int .i64 x.f2] (by rfl) rfl rfl (by (try simp only [List.map_toArray, List.map_cons, List.map_nil]); first | done | rfl | (simp only [List.length_drop, List.length_take]; rfl)) ?_
                  with_reducible refine (spec_Decimal.calls 18 x.f2 nb _ HD.out).mono ?_
                  rintro e wz ⟨rfl, hb⟩
                  refine ⟨_, rfl, ?_⟩
                  have hS_ := below_step hHeld hb
                  clear hb hHeld
                  refine hK.out _ _ hS_ (fun hHeld => ?_)
                  clear hK K hS_
                  refine norm_ (a' := ?_) ?_ ?_
                  rotate_left
                  · show Act.put _ (some 82) _ = _
                    simp only [Act.put, List.setIfInBounds_toArray, List.set_cons_zero, List.set_cons_succ, i64_w, i32_w]
                    rfl
                  refine pure_ (i := 11) (N := some 83) (v := ?_) (a' := ?_) #[true, true, true, true, true, true, true, true, true, true, true, true, false, false] rfl rfl (by kernel_rfl) (fun _ _ _ h => h) (Or.inl ⟨by rfl, ?_⟩) ?_ ?_
                  rotate_left
                  · intro w'
                    go_simp
                    with_reducible rfl
                  rotate_left
                  · simp only [Act.put, List.setIfInBounds_toArray, List.set_cons_zero, List.set_cons_succ, i64_w, i32_w]
                    rfl
                  refine pure_ (i := 12) (N := some 84) (v := ?_) (a' := ?_) #[true, true, true, true, true, true, true, true, true, true, true, true, true, false] rfl rfl (by kernel_rfl) (fun _ _ _ h => h) (Or.inl ⟨by rfl, ?_⟩) ?_ ?_
                  rotate_left
                  · intro w'
                    go_simp
                    with_reducible rfl
                  rotate_left
                  · simp only [Act.put, List.setIfInBounds_toArray, List.set_cons_zero, List.set_cons_succ, i64_w, i32_w]
                    rfl
                  refine pure_ (i := 13) (N := some 3) (v := ?_) (a' := ?_) #[true, true, true, true, true, true, true, true, true, true, true, true, true, true] rfl rfl (by kernel_rfl) (fun _ _ _ h => h) (Or.inl ⟨by rfl, ?_⟩) ?_ ?_
                  rotate_left
                  · intro w'
                    go_simp
                    with_reducible rfl
                  rotate_left
                  · simp only [Act.put, List.setIfInBounds_toArray, List.set_cons_zero, List.set_cons_succ, i64_w, i32_w]
                    rfl
                  refine done_ (by kernel_rfl) ?_
                  go_wp2
                  go_roundw
                  case measure => simp only [intOf]; omega
                  case rel => exact ⟨j + 1, _, by omega, rfl, by go_num, PS, Lib.hid (below_step HWQ.out hHeld)⟩
                · skip
                  refine goes_ Tryd.func35 (by kernel_rfl) rfl #[.int .i64 x.f2] (by rfl) rfl rfl (by (try simp only [List.map_toArray, List.map_cons, List.map_nil]); first | done | rfl | (simp only [List.length_drop, List.length_take]; rfl)) ?_
                  with_reducible refine (spec_Decimal.calls 18 x.f2 nb _ HD.out).mono ?_
                  rintro e wz ⟨rfl, hb⟩
                  refine ⟨_, rfl, ?_⟩
                  have m_HLT := Lib.hid (Kd.R_below HLT.out hb)
                  clear HLT
                  have HLT := m_HLT
                  clear m_HLT
                  have hS_ := below_step hHeld hb
                  clear hb hHeld
                  refine hK.out _ _ hS_ (fun hHeld => ?_)
                  clear hK K hS_
                  refine norm_ (a' := ?_) ?_ ?_
                  rotate_left
                  · show Act.put _ (some 82) _ = _
                    simp only [Act.put, List.setIfInBounds_toArray, List.set_cons_zero, List.set_cons_succ, i64_w, i32_w]
                    rfl
                  refine one_ (i := 6) (N := some 78) #[true, true, true, true, true, true, true, true, false, true, true, false, false, false] rfl rfl (by kernel_rfl) (by decide) (fun K hK => ?_)
                  have hcv := own_string (P := Tryd.prog) Tryd.underlying50 Tryd.underlying5 Tryd.underlying9 (Kd.own_of_R HLT.out)
                  rw [← HSB.out] at hcv
                  refine value_ (w1 := ?_) (v := ?_) (by rfl) rfl ?_ ?_
                  rotate_left 2
                  · go_simp
                    constructor
                    · rfl
                    · rfl
                  clear hcv HLT
                  refine hK.out _ _ hHeld (fun hHeld => ?_)
                  clear hK K
                  refine norm_ (a' := ?_) ?_ ?_
                  rotate_left
                  · show Act.put _ (some 78) _ = _
                    simp only [Act.put, List.setIfInBounds_toArray, List.set_cons_zero, List.set_cons_succ, i64_w, i32_w]
                    rfl
                  refine pure_ (i := 8) (N := some 80) (v := ?_) (a' := ?_) #[true, true, true, true, true, true, true, true, true, true, true, false, false, false] rfl rfl (by kernel_rfl) (fun _ _ _ h => h) (Or.inl ⟨by rfl, ?_⟩) ?_ ?_
                  rotate_left
                  · intro w'
                    go_simp
                    with_reducible rfl
                  rotate_left
                  · simp only [Act.put, List.setIfInBounds_toArray, List.set_cons_zero, List.set_cons_succ, i64_w, i32_w]
                    rfl
                  refine pure_ (i := 11) (N := some 83) (v := ?_) (a' := ?_) #[true, true, true, true, true, true, true, true, true, true, true, true, false, false] rfl rfl (by kernel_rfl) (fun _ _ _ h => h) (Or.inl ⟨by rfl, ?_⟩) ?_ ?_
                  rotate_left
                  · intro w'
                    go_simp
                    with_reducible rfl
                  rotate_left
                  · simp only [Act.put, List.setIfInBounds_toArray, List.set_cons_zero, List.set_cons_succ, i64_w, i32_w]
                    rfl
                  refine pure_ (i := 12) (N := some 84) (v := ?_) (a' := ?_) #[true, true, true, true, true, true, true, true, true, true, true, true, true, false] rfl rfl (by kernel_rfl) (fun _ _ _ h => h) (Or.inl ⟨by rfl, ?_⟩) ?_ ?_
                  rotate_left
                  · intro w'
                    go_simp
                    with_reducible rfl
                  rotate_left
                  · simp only [Act.put, List.setIfInBounds_toArray, List.set_cons_zero, List.set_cons_succ, i64_w, i32_w]
                    rfl
                  refine pure_ (i := 13) (N := some 3) (v := ?_) (a' := ?_) #[true, true, true, true, true, true, true, true, true, true, true, true, true, true] rfl rfl (by kernel_rfl) (fun _ _ _ h => h) (Or.inl ⟨by rfl, ?_⟩) ?_ ?_
                  rotate_left
                  · intro w'
                    go_simp
                    with_reducible rfl
                  rotate_left
                  · simp only [Act.put, List.setIfInBounds_toArray, List.set_cons_zero, List.set_cons_succ, i64_w, i32_w]
                    rfl
                  refine done_ (by kernel_rfl) ?_
                  go_wp2
                  go_roundw
                  case measure => simp only [intOf]; omega
                  case rel => exact ⟨j + 1, _, by omega, rfl, by go_num, PS, Lib.hid (below_step HWQ.out hHeld)⟩
              · skip
                refine goes_ Tryd.func35 (by kernel_rfl) rfl #[.int .i64 x.f2] (by rfl) rfl rfl (by (try simp only [List.map_toArray, List.map_cons, List.map_nil]); first | done | rfl | (simp only [List.length_drop, List.length_take]; rfl)) ?_
                with_reducible refine (spec_Decimal.calls 18 x.f2 nb _ HD.out).mono ?_
                rintro e wz ⟨rfl, hb⟩
                refine ⟨_, rfl, ?_⟩
                have hS_ := below_step hHeld hb
                clear hb hHeld
                refine hK.out _ _ hS_ (fun hHeld => ?_)
                clear hK K hS_
                refine norm_ (a' := ?_) ?_ ?_
                rotate_left
                · show Act.put _ (some 82) _ = _
                  simp only [Act.put, List.setIfInBounds_toArray, List.set_cons_zero, List.set_cons_succ, i64_w, i32_w]
                  rfl
                refine one_ (i := 5) (N := some 77) #[true, true, true, true, true, true, false, true, false, true, true, false, false, false] rfl rfl (by kernel_rfl) (by decide) (fun K hK => ?_)
                refine Kd.R_lit_step (Kd.int .u8) _ 5 ?hgu2 (N := 77) ?hdu2 (xs := ([x.f0, x.f1] : List Int)) (inner := [.int .u8 x.f0, .int .u8 x.f1]) (ok := fun _ => True) (okp := fun _ => True) ?hru2 ?hpu2 (fun _ hk => hk) trivial (Below.refl _ _) (Nat.le_refl _) (by simp) ?_
                (case hdu2 => rfl)
                (case hgu2 => rfl)
                (case hru2 => first | (go_simp; done) | (go_simp; rfl))
                (case hpu2 => exact (Reps.one (show Kd.M (Kd.int .u8) _ _ _ x.f0 [.int .u8 x.f0] from rfl) (Reps.one (show Kd.M (Kd.int .u8) _ _ _ x.f1 [.int .u8 x.f1] from rfl) (Reps.none _ _))))
                intro vl wz ho hb hg_ hnew_
                clear hg_ hnew_
                have HLT := Lib.hid ho
                clear ho
                have hS_ := below_step hHeld hb
                clear hb hHeld
                refine hK.out _ _ hS_ (fun hHeld => ?_)
                clear hK K hS_
                refine norm_ (a' := ?_) ?_ ?_
                rotate_left
                · show Act.put _ (some 77) _ = _
                  simp only [Act.put, List.setIfInBounds_toArray, List.set_cons_zero, List.set_cons_succ, i64_w, i32_w]
                  rfl
                refine one_ (i := 6) (N := some 78) #[true, true, true, true, true, true, true, true, false, true, true, false, false, false] rfl rfl (by kernel_rfl) (by decide) (fun K hK => ?_)
                have hcv := own_string (P := Tryd.prog) Tryd.underlying50 Tryd.underlying5 Tryd.underlying9 (Kd.own_of_R HLT.out)
                rw [← HSB.out] at hcv
                refine value_ (w1 := ?_) (v := ?_) (by rfl) rfl ?_ ?_
                rotate_left 2
                · go_simp
                  constructor
                  · rfl
                  · rfl
                clear hcv HLT
                refine hK.out _ _ hHeld (fun hHeld => ?_)
                clear hK K
                refine norm_ (a' := ?_) ?_ ?_
                rotate_left
                · show Act.put _ (some 78) _ = _
                  simp only [Act.put, List.setIfInBounds_toArray, List.set_cons_zero, List.set_cons_succ, i64_w, i32_w]
                  rfl
                refine pure_ (i := 8) (N := some 80) (v := ?_) (a' := ?_) #[true, true, true, true, true, true, true, true, true, true, true, false, false, false] rfl rfl (by kernel_rfl) (fun _ _ _ h => h) (Or.inl ⟨by rfl, ?_⟩) ?_ ?_
                rotate_left
                · intro w'
                  go_simp
                  with_reducible rfl
                rotate_left
                · simp only [Act.put, List.setIfInBounds_toArray, List.set_cons_zero, List.set_cons_succ, i64_w, i32_w]
                  rfl
                refine pure_ (i := 11) (N := some 83) (v := ?_) (a' := ?_) #[true, true, true, true, true, true, true, true, true, true, true, true, false, false] rfl rfl (by kernel_rfl) (fun _ _ _ h => h) (Or.inl ⟨by rfl, ?_⟩) ?_ ?_
                rotate_left
                · intro w'
                  go_simp
                  with_reducible rfl
                rotate_left
                · simp only [Act.put, List.setIfInBounds_toArray, List.set_cons_zero, List.set_cons_succ, i64_w, i32_w]
                  rfl
                refine pure_ (i := 12) (N := some 84) (v := ?_) (a' := ?_) #[true, true, true, true, true, true, true, true, true, true, true, true, true, false] rfl rfl (by kernel_rfl) (fun _ _ _ h => h) (Or.inl ⟨by rfl, ?_⟩) ?_ ?_
                rotate_left
                · intro w'
                  go_simp
                  with_reducible rfl
                rotate_left
                · simp only [Act.put, List.setIfInBounds_toArray, List.set_cons_zero, List.set_cons_succ, i64_w, i32_w]
                  rfl
                refine pure_ (i := 13) (N := some 3) (v := ?_) (a' := ?_) #[true, true, true, true, true, true, true, true, true, true, true, true, true, true] rfl rfl (by kernel_rfl) (fun _ _ _ h => h) (Or.inl ⟨by rfl, ?_⟩) ?_ ?_
                rotate_left
                · intro w'
                  go_simp
                  with_reducible rfl
                rotate_left
                · simp only [Act.put, List.setIfInBounds_toArray, List.set_cons_zero, List.set_cons_succ, i64_w, i32_w]
                  rfl
                refine done_ (by kernel_rfl) ?_
                go_wp2
                go_roundw
                case measure => simp only [intOf]; omega
                case rel => exact ⟨j + 1, _, by omega, rfl, by go_num, PS, Lib.hid (below_step HWQ.out hHeld)⟩
          · by_cases hneg : x.f2 < 0
            · skip
              have s1 : decide (x.f2 < 0) = true := decide_eq_true hneg
              obtain ⟨n, hn⟩ : ∃ n, n = -x.f2 := ⟨_, rfl⟩
              have hn1 : IntKind.i64.wrap (-x.f2) = n := by rw [hn]; exact IntWalk.i64_in _ (by omega)
              have hn0 : 0 ≤ n ∧ n ≤ 10 := by omega
              obtain ⟨nb, hnb⟩ : ∃ nb, nb = itoaB n := ⟨_, rfl⟩
              have EB := Lib.hid (show byT x.f2 = (⟨#[45]⟩ : ByteArray) ++ nb by rw [hnb, hn]; unfold byT; rw [if_pos hneg, if_pos hneg])
              have HD := Lib.hid (dec_spec n (by omega) (by omega))
              rw [← hnb] at HD
              have zn : nb.size ≤ 2 := by rw [hnb]; exact itoaB_small (by omega) (by omega)
              clear hnb
              have hsz1 : (⟨#[45]⟩ : ByteArray).size = 1 := rfl
              have PS := Lib.hid (show pp ++ ((sb ++ (⟨#[45]⟩ : ByteArray)) ++ nb) = LF ++ joinB ((l.take (j + 1)).map prT) blankT from by
                have h5 := preT_step prT l j hlj
                rw [← h5, HPP.out, ByteArray.append_assoc]
                congr 1
                have h6 : prT l[j] = sb ++ ((⟨#[45]⟩ : ByteArray) ++ nb) := by rw [← HXX.out, HSB.out]; unfold prT; rw [EB.out]
                rw [h6, ByteArray.append_assoc])
              have z29a : decide (sb.size + 1 ≤ 9223372036854775807) = true := decide_eq_true (by omega)
              have z29b : ¬ (9223372036854775807 < sb.size + 1) := (by omega)
              have z30a : decide (sb.size + (⟨#[45]⟩ : ByteArray).size ≤ 9223372036854775807) = true := decide_eq_true (by omega)
              have z30b : ¬ (9223372036854775807 < sb.size + (⟨#[45]⟩ : ByteArray).size) := (by omega)
              have z31a : decide ((sb ++ (⟨#[45]⟩ : ByteArray)).size + nb.size ≤ 9223372036854775807) = true := decide_eq_true (by rw [ByteArray.size_append]; omega)
              have z31b : ¬ (9223372036854775807 < (sb ++ (⟨#[45]⟩ : ByteArray)).size + nb.size) := (by rw [ByteArray.size_append]; omega)
              have z32a : decide (pp.size + ((sb ++ (⟨#[45]⟩ : ByteArray)) ++ nb).size ≤ 9223372036854775807) = true := decide_eq_true (by rw [ByteArray.size_append, ByteArray.size_append]; omega)
              have z32b : ¬ (9223372036854775807 < pp.size + ((sb ++ (⟨#[45]⟩ : ByteArray)) ++ nb).size) := (by rw [ByteArray.size_append, ByteArray.size_append]; omega)
              have z33a : decide ((sb.size + 1) + nb.size ≤ 9223372036854775807) = true := decide_eq_true (by omega)
              have z33b : ¬ (9223372036854775807 < (sb.size + 1) + nb.size) := (by omega)
              have z34a : decide (pp.size + (sb.size + 1 + nb.size) ≤ 9223372036854775807) = true := decide_eq_true (by omega)
              have z34b : ¬ (9223372036854775807 < pp.size + (sb.size + 1 + nb.size)) := (by omega)
              have hx5 : IntKind.i64.wrap x.f2 = x.f2 := IntWalk.i64_in _ (by omega)
              have c1 : decide (0 < (j : Int)) = false := decide_eq_false (by omega)
              have c2 : decide ((j : Int) > 0) = false := decide_eq_false (by omega)
              have c3 : ¬ (0 : Int) < (j : Int) := by omega
              have EP := Lib.hid (show pt = pp by rw [PE.out, HPP.out]; unfold preT; rw [if_neg h0])
              have HNG := Lib.hid hneg
              have HN5 := Lib.hid hn
              clear hn hneg h0 hn0
              go_upto_region 20 with (fail)
              rw [EP.out]
              have D0 : (wr.alloc (.cells #[.int .u8 x.f0, .int .u8 x.f1, .int .i8 x.f2] 48)).drew.cell? ⟨wr.heap.size, 0, none⟩ = some (.int .u8 x.f0) := d0
              have D1 : (wr.alloc (.cells #[.int .u8 x.f0, .int .u8 x.f1, .int .i8 x.f2] 48)).drew.cell? ⟨wr.heap.size, 1, none⟩ = some (.int .u8 x.f1) := d1
              have HWQ := Lib.hid (below_drew1 (below_step HW.out HB2.out))
              clear d0 d1 d2 c28 hx0 hx1 hx2 HW K0
              refine start_ (n := 14) (S := fun w' => Below ((wr.alloc (.cells #[.int .u8 x.f0, .int .u8 x.f1, .int .i8 x.f2] 48))).drew.heap.size ((wr.alloc (.cells #[.int .u8 x.f0, .int .u8 x.f1, .int .i8 x.f2] 48))).drew w') (ds := []) #[false, false, false, false, false, false, false, false, false, false, false, false, false, false] (by kernel_rfl) rfl rfl (Below.refl _ _) (fun hHeld => ?_)
              generalize (wr.alloc (.cells #[.int .u8 x.f0, .int .u8 x.f1, .int .i8 x.f2] 48)).drew = wq at D0 D1 HWQ hHeld ⊢
              refine pure_ (i := 0) (N := some 72) (v := ?_) (a' := ?_) #[true, false, false, false, false, false, false, false, false, false, false, false, false, false] rfl rfl (by kernel_rfl) (fun _ _ _ h => h) (Or.inl ⟨by rfl, ?_⟩) ?_ ?_
              rotate_left
              · intro w'
                go_simp
                with_reducible rfl
              rotate_left
              · simp only [Act.put, List.setIfInBounds_toArray, List.set_cons_zero, List.set_cons_succ, i64_w, i32_w]
                rfl
              refine pure_ (i := 1) (N := some 73) (v := ?_) (a' := ?_) #[true, true, false, false, false, false, false, false, false, false, false, false, false, false] rfl rfl (by kernel_rfl) (fun _ _ _ h => h) (Or.inl ⟨by rfl, ?_⟩) ?_ ?_
              rotate_left
              · intro w'
                go_simp
                with_reducible rfl
              rotate_left
              · simp only [Act.put, List.setIfInBounds_toArray, List.set_cons_zero, List.set_cons_succ, i64_w, i32_w]
                rfl
              refine take_ (i := 2) (N := some 74) (v := ?_) (a' := ?_) #[true, true, true, false, false, false, false, false, false, false, false, false, false, false] rfl rfl (by kernel_rfl) (fun _ _ _ h => h) (Or.inl ⟨by rfl, ?_⟩) hHeld ?_ ?_
              rotate_left
              · rintro w' hS
                have q_D0 := bcell hS D0
                have q_D1 := bcell hS D1
                go_simp
                with_reducible rfl
              rotate_left
              · simp only [Act.put, List.setIfInBounds_toArray, List.set_cons_zero, List.set_cons_succ, i64_w, i32_w]
                rfl
              refine pure_ (i := 3) (N := some 75) (v := ?_) (a' := ?_) #[true, true, true, true, false, false, false, false, false, false, false, false, false, false] rfl rfl (by kernel_rfl) (fun _ _ _ h => h) (Or.inl ⟨by rfl, ?_⟩) ?_ ?_
              rotate_left
              · intro w'
                go_simp
                with_reducible rfl
              rotate_left
              · simp only [Act.put, List.setIfInBounds_toArray, List.set_cons_zero, List.set_cons_succ, i64_w, i32_w]
                rfl
              refine take_ (i := 4) (N := some 76) (v := ?_) (a' := ?_) #[true, true, true, true, true, false, false, false, false, false, false, false, false, false] rfl rfl (by kernel_rfl) (fun _ _ _ h => h) (Or.inl ⟨by rfl, ?_⟩) hHeld ?_ ?_
              rotate_left
              · rintro w' hS
                have q_D0 := bcell hS D0
                have q_D1 := bcell hS D1
                go_simp
                with_reducible rfl
              rotate_left
              · simp only [Act.put, List.setIfInBounds_toArray, List.set_cons_zero, List.set_cons_succ, i64_w, i32_w]
                rfl
              refine pure_ (i := 7) (N := some 79) (v := ?_) (a' := ?_) #[true, true, true, true, true, false, false, true, false, false, false, false, false, false] rfl rfl (by kernel_rfl) (fun _ _ _ h => h) (Or.inl ⟨by rfl, ?_⟩) ?_ ?_
              rotate_left
              · intro w'
                go_simp
                with_reducible rfl
              rotate_left
              · simp only [Act.put, List.setIfInBounds_toArray, List.set_cons_zero, List.set_cons_succ, i64_w, i32_w]
                rfl
              refine pure_ (i := 9) (N := some 81) (v := ?_) (a' := ?_) #[true, true, true, true, true, false, false, true, false, true, false, false, false, false] rfl rfl (by kernel_rfl) (fun _ _ _ h => h) (Or.inl ⟨by rfl, ?_⟩) ?_ ?_
              rotate_left
              · intro w'
                go_simp
                with_reducible rfl
              rotate_left
              · simp only [Act.put, List.setIfInBounds_toArray, List.set_cons_zero, List.set_cons_succ, i64_w, i32_w]
                rfl
              refine two_ (i := 5) (j := 10) (Ni := some 77) (Nj := some 82) #[true, true, true, true, true, true, false, true, false, true, false, false, false, false] #[true, true, true, true, true, false, false, true, false, true, true, false, false, false] rfl rfl rfl rfl (by kernel_rfl) (by decide) (by decide) (fun K hK => ?_) (fun K hK => ?_)
              · skip
                refine Kd.R_lit_step (Kd.int .u8) _ 5 ?hgu1 (N := 77) ?hdu1 (xs := ([x.f0, x.f1] : List Int)) (inner := [.int .u8 x.f0, .int .u8 x.f1]) (ok := fun _ => True) (okp := fun _ => True) ?hru1 ?hpu1 (fun _ hk => hk) trivial (Below.refl _ _) (Nat.le_refl _) (by simp) ?_
                (case hdu1 => rfl)
                (case hgu1 => rfl)
                (case hru1 => first | (go_simp; done) | (go_simp; rfl))
                (case hpu1 => exact (Reps.one (show Kd.M (Kd.int .u8) _ _ _ x.f0 [.int .u8 x.f0] from rfl) (Reps.one (show Kd.M (Kd.int .u8) _ _ _ x.f1 [.int .u8 x.f1] from rfl) (Reps.none _ _))))
                intro vl wz ho hb hg_ hnew_
                clear hg_ hnew_
                have HLT := Lib.hid ho
                clear ho
                have hS_ := below_step hHeld hb
                clear hb hHeld
                refine hK.out _ _ hS_ (fun hHeld => ?_)
                clear hK K hS_
                refine norm_ (a' := ?_) ?_ ?_
                rotate_left
                · show Act.put _ (some 77) _ = _
                  simp only [Act.put, List.setIfInBounds_toArray, List.set_cons_zero, List.set_cons_succ, i64_w, i32_w]
                  rfl
                refine two_ (i := 6) (j := 10) (Ni := some 78) (Nj := some 82) #[true, true, true, true, true, true, true, true, false, true, false, false, false, false] #[true, true, true, true, true, true, false, true, false, true, true, false, false, false] rfl rfl rfl rfl (by kernel_rfl) (by decide) (by decide) (fun K hK => ?_) (fun K hK => ?_)
                · skip
                  have hcv := own_string (P := Tryd.prog) Tryd.underlying50 Tryd.underlying5 Tryd.underlying9 (Kd.own_of_R HLT.out)
                  rw [← HSB.out] at hcv
                  refine value_ (w1 := ?_) (v := ?_) (by rfl) rfl ?_ ?_
                  rotate_left 2
                  · go_simp
                    constructor
                    · rfl
                    · rfl
                  clear hcv HLT
                  refine hK.out _ _ hHeld (fun hHeld => ?_)
                  clear hK K
                  refine norm_ (a' := ?_) ?_ ?_
                  rotate_left
                  · show Act.put _ (some 78) _ = _
                    simp only [Act.put, List.setIfInBounds_toArray, List.set_cons_zero, List.set_cons_succ, i64_w, i32_w]
                    rfl
                  refine pure_ (i := 8) (N := some 80) (v := ?_) (a' := ?_) #[true, true, true, true, true, true, true, true, true, true, false, false, false, false] rfl rfl (by kernel_rfl) (fun _ _ _ h => h) (Or.inl ⟨by rfl, ?_⟩) ?_ ?_
                  rotate_left
                  · intro w'
                    go_simp
                    with_reducible rfl
                  rotate_left
                  · simp only [Act.put, List.setIfInBounds_toArray, List.set_cons_zero, List.set_cons_succ, i64_w, i32_w]
                    rfl
                  refine one_ (i := 10) (N := some 82) #[true, true, true, true, true, true, true, true, true, true, true, false, false, false] rfl rfl (by kernel_rfl) (by decide) (fun K hK => ?_)
                  refine goes_ Tryd.func35 (by kernel_rfl) rfl #[.int .i64 n] (by rfl) rfl rfl (by (try simp only [List.map_toArray, List.map_cons, List.map_nil]); first | done | rfl | (simp only [List.length_drop, List.length_take]; rfl)) ?_
                  with_reducible refine (spec_Decimal.calls 18 n nb _ HD.out).mono ?_
                  rintro e wz ⟨rfl, hb⟩
                  refine ⟨_, rfl, ?_⟩
                  have hS_ := below_step hHeld hb
                  clear hb hHeld
                  refine hK.out _ _ hS_ (fun hHeld => ?_)
                  clear hK K hS_
                  refine norm_ (a' := ?_) ?_ ?_
                  rotate_left
                  · show Act.put _ (some 82) _ = _
                    simp only [Act.put, List.setIfInBounds_toArray, List.set_cons_zero, List.set_cons_succ, i64_w, i32_w]
                    rfl
                  refine pure_ (i := 11) (N := some 83) (v := ?_) (a' := ?_) #[true, true, true, true, true, true, true, true, true, true, true, true, false, false] rfl rfl (by kernel_rfl) (fun _ _ _ h => h) (Or.inl ⟨by rfl, ?_⟩) ?_ ?_
                  rotate_left
                  · intro w'
                    go_simp
                    with_reducible rfl
                  rotate_left
                  · simp only [Act.put, List.setIfInBounds_toArray, List.set_cons_zero, List.set_cons_succ, i64_w, i32_w]
                    rfl
                  refine pure_ (i := 12) (N := some 84) (v := ?_) (a' := ?_) #[true, true, true, true, true, true, true, true, true, true, true, true, true, false] rfl rfl (by kernel_rfl) (fun _ _ _ h => h) (Or.inl ⟨by rfl, ?_⟩) ?_ ?_
                  rotate_left
                  · intro w'
                    go_simp
                    with_reducible rfl
                  rotate_left
                  · simp only [Act.put, List.setIfInBounds_toArray, List.set_cons_zero, List.set_cons_succ, i64_w, i32_w]
                    rfl
                  refine pure_ (i := 13) (N := some 3) (v := ?_) (a' := ?_) #[true, true, true, true, true, true, true, true, true, true, true, true, true, true] rfl rfl (by kernel_rfl) (fun _ _ _ h => h) (Or.inl ⟨by rfl, ?_⟩) ?_ ?_
                  rotate_left
                  · intro w'
                    go_simp
                    with_reducible rfl
                  rotate_left
                  · simp only [Act.put, List.setIfInBounds_toArray, List.set_cons_zero, List.set_cons_succ, i64_w, i32_w]
                    rfl
                  refine done_ (by kernel_rfl) ?_
                  go_wp2
                  go_roundw
                  case measure => simp only [intOf]; omega
                  case rel => exact ⟨j + 1, _, by omega, rfl, by go_num, PS, Lib.hid (below_step HWQ.out hHeld)⟩
                · skip
                  refine goes_ Tryd.func35 (by kernel_rfl) rfl #[.int .i64 n] (by rfl) rfl rfl (by (try simp only [List.map_toArray, List.map_cons, List.map_nil]); first | done | rfl | (simp only [List.length_drop, List.length_take]; rfl)) ?_
                  with_reducible refine (spec_Decimal.calls 18 n nb _ HD.out).mono ?_
                  rintro e wz ⟨rfl, hb⟩
                  refine ⟨_, rfl, ?_⟩
                  have m_HLT := Lib.hid (Kd.R_below HLT.out hb)
                  clear HLT
                  have HLT := m_HLT
                  clear m_HLT
                  have hS_ := below_step hHeld hb
                  clear hb hHeld
                  refine hK.out _ _ hS_ (fun hHeld => ?_)
                  clear hK K hS_
                  refine norm_ (a' := ?_) ?_ ?_
                  rotate_left
                  · show Act.put _ (some 82) _ = _
                    simp only [Act.put, List.setIfInBounds_toArray, List.set_cons_zero, List.set_cons_succ, i64_w, i32_w]
                    rfl
                  refine one_ (i := 6) (N := some 78) #[true, true, true, true, true, true, true, true, false, true, true, false, false, false] rfl rfl (by kernel_rfl) (by decide) (fun K hK => ?_)
                  have hcv := own_string (P := Tryd.prog) Tryd.underlying50 Tryd.underlying5 Tryd.underlying9 (Kd.own_of_R HLT.out)
                  rw [← HSB.out] at hcv
                  refine value_ (w1 := ?_) (v := ?_) (by rfl) rfl ?_ ?_
                  rotate_left 2
                  · go_simp
                    constructor
                    · rfl
                    · rfl
                  clear hcv HLT
                  refine hK.out _ _ hHeld (fun hHeld => ?_)
                  clear hK K
                  refine norm_ (a' := ?_) ?_ ?_
                  rotate_left
                  · show Act.put _ (some 78) _ = _
                    simp only [Act.put, List.setIfInBounds_toArray, List.set_cons_zero, List.set_cons_succ, i64_w, i32_w]
                    rfl
                  refine pure_ (i := 8) (N := some 80) (v := ?_) (a' := ?_) #[true, true, true, true, true, true, true, true, true, true, true, false, false, false] rfl rfl (by kernel_rfl) (fun _ _ _ h => h) (Or.inl ⟨by rfl, ?_⟩) ?_ ?_
                  rotate_left
                  · intro w'
                    go_simp
                    with_reducible rfl
                  rotate_left
                  · simp only [Act.put, List.setIfInBounds_toArray, List.set_cons_zero, List.set_cons_succ, i64_w, i32_w]
                    rfl
                  refine pure_ (i := 11) (N := some 83) (v := ?_) (a' := ?_) #[true, true, true, true, true, true, true, true, true, true, true, true, false, false] rfl rfl (by kernel_rfl) (fun _ _ _ h => h) (Or.inl ⟨by rfl, ?_⟩) ?_ ?_
                  rotate_left
                  · intro w'
                    go_simp
                    with_reducible rfl
                  rotate_left
                  · simp only [Act.put, List.setIfInBounds_toArray, List.set_cons_zero, List.set_cons_succ, i64_w, i32_w]
                    rfl
                  refine pure_ (i := 12) (N := some 84) (v := ?_) (a' := ?_) #[true, true, true, true, true, true, true, true, true, true, true, true, true, false] rfl rfl (by kernel_rfl) (fun _ _ _ h => h) (Or.inl ⟨by rfl, ?_⟩) ?_ ?_
                  rotate_left
                  · intro w'
                    go_simp
                    with_reducible rfl
                  rotate_left
                  · simp only [Act.put, List.setIfInBounds_toArray, List.set_cons_zero, List.set_cons_succ, i64_w, i32_w]
                    rfl
                  refine pure_ (i := 13) (N := some 3) (v := ?_) (a' := ?_) #[true, true, true, true, true, true, true, true, true, true, true, true, true, true] rfl rfl (by kernel_rfl) (fun _ _ _ h => h) (Or.inl ⟨by rfl, ?_⟩) ?_ ?_
                  rotate_left
                  · intro w'
                    go_simp
                    with_reducible rfl
                  rotate_left
                  · simp only [Act.put, List.setIfInBounds_toArray, List.set_cons_zero, List.set_cons_succ, i64_w, i32_w]
                    rfl
                  refine done_ (by kernel_rfl) ?_
                  go_wp2
                  go_roundw
                  case measure => simp only [intOf]; omega
                  case rel => exact ⟨j + 1, _, by omega, rfl, by go_num, PS, Lib.hid (below_step HWQ.out hHeld)⟩
              · skip
                refine goes_ Tryd.func35 (by kernel_rfl) rfl #[.int .i64 n] (by rfl) rfl rfl (by (try simp only [List.map_toArray, List.map_cons, List.map_nil]); first | done | rfl | (simp only [List.length_drop, List.length_take]; rfl)) ?_
                with_reducible refine (spec_Decimal.calls 18 n nb _ HD.out).mono ?_
                rintro e wz ⟨rfl, hb⟩
                refine ⟨_, rfl, ?_⟩
                have hS_ := below_step hHeld hb
                clear hb hHeld
                refine hK.out _ _ hS_ (fun hHeld => ?_)
                clear hK K hS_
                refine norm_ (a' := ?_) ?_ ?_
                rotate_left
                · show Act.put _ (some 82) _ = _
                  simp only [Act.put, List.setIfInBounds_toArray, List.set_cons_zero, List.set_cons_succ, i64_w, i32_w]
                  rfl
                refine one_ (i := 5) (N := some 77) #[true, true, true, true, true, true, false, true, false, true, true, false, false, false] rfl rfl (by kernel_rfl) (by decide) (fun K hK => ?_)
                refine Kd.R_lit_step (Kd.int .u8) _ 5 ?hgu2 (N := 77) ?hdu2 (xs := ([x.f0, x.f1] : List Int)) (inner := [.int .u8 x.f0, .int .u8 x.f1]) (ok := fun _ => True) (okp := fun _ => True) ?hru2 ?hpu2 (fun _ hk => hk) trivial (Below.refl _ _) (Nat.le_refl _) (by simp) ?_
                (case hdu2 => rfl)
                (case hgu2 => rfl)
                (case hru2 => first | (go_simp; done) | (go_simp; rfl))
                (case hpu2 => exact (Reps.one (show Kd.M (Kd.int .u8) _ _ _ x.f0 [.int .u8 x.f0] from rfl) (Reps.one (show Kd.M (Kd.int .u8) _ _ _ x.f1 [.int .u8 x.f1] from rfl) (Reps.none _ _))))
                intro vl wz ho hb hg_ hnew_
                clear hg_ hnew_
                have HLT := Lib.hid ho
                clear ho
                have hS_ := below_step hHeld hb
                clear hb hHeld
                refine hK.out _ _ hS_ (fun hHeld => ?_)
                clear hK K hS_
                refine norm_ (a' := ?_) ?_ ?_
                rotate_left
                · show Act.put _ (some 77) _ = _
                  simp only [Act.put, List.setIfInBounds_toArray, List.set_cons_zero, List.set_cons_succ, i64_w, i32_w]
                  rfl
                refine one_ (i := 6) (N := some 78) #[true, true, true, true, true, true, true, true, false, true, true, false, false, false] rfl rfl (by kernel_rfl) (by decide) (fun K hK => ?_)
                have hcv := own_string (P := Tryd.prog) Tryd.underlying50 Tryd.underlying5 Tryd.underlying9 (Kd.own_of_R HLT.out)
                rw [← HSB.out] at hcv
                refine value_ (w1 := ?_) (v := ?_) (by rfl) rfl ?_ ?_
                rotate_left 2
                · go_simp
                  constructor
                  · rfl
                  · rfl
                clear hcv HLT
                refine hK.out _ _ hHeld (fun hHeld => ?_)
                clear hK K
                refine norm_ (a' := ?_) ?_ ?_
                rotate_left
                · show Act.put _ (some 78) _ = _
                  simp only [Act.put, List.setIfInBounds_toArray, List.set_cons_zero, List.set_cons_succ, i64_w, i32_w]
                  rfl
                refine pure_ (i := 8) (N := some 80) (v := ?_) (a' := ?_) #[true, true, true, true, true, true, true, true, true, true, true, false, false, false] rfl rfl (by kernel_rfl) (fun _ _ _ h => h) (Or.inl ⟨by rfl, ?_⟩) ?_ ?_
                rotate_left
                · intro w'
                  go_simp
                  with_reducible rfl
                rotate_left
                · simp only [Act.put, List.setIfInBounds_toArray, List.set_cons_zero, List.set_cons_succ, i64_w, i32_w]
                  rfl
                refine pure_ (i := 11) (N := some 83) (v := ?_) (a' := ?_) #[true, true, true, true, true, true, true, true, true, true, true, true, false, false] rfl rfl (by kernel_rfl) (fun _ _ _ h => h) (Or.inl ⟨by rfl, ?_⟩) ?_ ?_
                rotate_left
                · intro w'
                  go_simp
                  with_reducible rfl
                rotate_left
                · simp only [Act.put, List.setIfInBounds_toArray, List.set_cons_zero, List.set_cons_succ, i64_w, i32_w]
                  rfl
                refine pure_ (i := 12) (N := some 84) (v := ?_) (a' := ?_) #[true, true, true, true, true, true, true, true, true, true, true, true, true, false] rfl rfl (by kernel_rfl) (fun _ _ _ h => h) (Or.inl ⟨by rfl, ?_⟩) ?_ ?_
                rotate_left
                · intro w'
                  go_simp
                  with_reducible rfl
                rotate_left
                · simp only [Act.put, List.setIfInBounds_toArray, List.set_cons_zero, List.set_cons_succ, i64_w, i32_w]
                  rfl
                refine pure_ (i := 13) (N := some 3) (v := ?_) (a' := ?_) #[true, true, true, true, true, true, true, true, true, true, true, true, true, true] rfl rfl (by kernel_rfl) (fun _ _ _ h => h) (Or.inl ⟨by rfl, ?_⟩) ?_ ?_
                rotate_left
                · intro w'
                  go_simp
                  with_reducible rfl
                rotate_left
                · simp only [Act.put, List.setIfInBounds_toArray, List.set_cons_zero, List.set_cons_succ, i64_w, i32_w]
                  rfl
                refine done_ (by kernel_rfl) ?_
                go_wp2
                go_roundw
                case measure => simp only [intOf]; omega
                case rel => exact ⟨j + 1, _, by omega, rfl, by go_num, PS, Lib.hid (below_step HWQ.out hHeld)⟩
            · skip
              have s1 : decide (x.f2 < 0) = false := decide_eq_false hneg
              have hn0 : 0 ≤ x.f2 ∧ x.f2 ≤ 10 := by omega
              obtain ⟨nb, hnb⟩ : ∃ nb, nb = itoaB x.f2 := ⟨_, rfl⟩
              have EB := Lib.hid (show byT x.f2 = (⟨#[43]⟩ : ByteArray) ++ nb by rw [hnb]; unfold byT; rw [if_neg hneg, if_neg hneg])
              have HD := Lib.hid (dec_spec x.f2 (by omega) (by omega))
              rw [← hnb] at HD
              have zn : nb.size ≤ 2 := by rw [hnb]; exact itoaB_small (by omega) (by omega)
              clear hnb
              have hsz1 : (⟨#[43]⟩ : ByteArray).size = 1 := rfl
              have PS := Lib.hid (show pp ++ ((sb ++ (⟨#[43]⟩ : ByteArray)) ++ nb) = LF ++ joinB ((l.take (j + 1)).map prT) blankT from by
                have h5 := preT_step prT l j hlj
                rw [← h5, HPP.out, ByteArray.append_assoc]
                congr 1
                have h6 : prT l[j] = sb ++ ((⟨#[43]⟩ : ByteArray) ++ nb) := by rw [← HXX.out, HSB.out]; unfold prT; rw [EB.out]
                rw [h6, ByteArray.append_assoc])
              have z35a : decide (sb.size + 1 ≤ 9223372036854775807) = true := decide_eq_true (by omega)
              have z35b : ¬ (9223372036854775807 < sb.size + 1) := (by omega)
              have z36a : decide (sb.size + (⟨#[43]⟩ : ByteArray).size ≤ 9223372036854775807) = true := decide_eq_true (by omega)
              have z36b : ¬ (9223372036854775807 < sb.size + (⟨#[43]⟩ : ByteArray).size) := (by omega)
              have z37a : decide ((sb ++ (⟨#[43]⟩ : ByteArray)).size + nb.size ≤ 9223372036854775807) = true := decide_eq_true (by rw [ByteArray.size_append]; omega)
              have z37b : ¬ (9223372036854775807 < (sb ++ (⟨#[43]⟩ : ByteArray)).size + nb.size) := (by rw [ByteArray.size_append]; omega)
              have z38a : decide (pp.size + ((sb ++ (⟨#[43]⟩ : ByteArray)) ++ nb).size ≤ 9223372036854775807) = true := decide_eq_true (by rw [ByteArray.size_append, ByteArray.size_append]; omega)
              have z38b : ¬ (9223372036854775807 < pp.size + ((sb ++ (⟨#[43]⟩ : ByteArray)) ++ nb).size) := (by rw [ByteArray.size_append, ByteArray.size_append]; omega)
              have z39a : decide ((sb.size + 1) + nb.size ≤ 9223372036854775807) = true := decide_eq_true (by omega)
              have z39b : ¬ (9223372036854775807 < (sb.size + 1) + nb.size) := (by omega)
              have z40a : decide (pp.size + (sb.size + 1 + nb.size) ≤ 9223372036854775807) = true := decide_eq_true (by omega)
              have z40b : ¬ (9223372036854775807 < pp.size + (sb.size + 1 + nb.size)) := (by omega)
              have hx5 : IntKind.i64.wrap x.f2 = x.f2 := IntWalk.i64_in _ (by omega)
              have c1 : decide (0 < (j : Int)) = false := decide_eq_false (by omega)
              have c2 : decide ((j : Int) > 0) = false := decide_eq_false (by omega)
              have c3 : ¬ (0 : Int) < (j : Int) := by omega
              have EP := Lib.hid (show pt = pp by rw [PE.out, HPP.out]; unfold preT; rw [if_neg h0])
              have HNG := Lib.hid hneg
              clear hneg h0 hn0
              go_upto_region 20 with (fail)
              rw [EP.out]
              have D0 : (wr.alloc (.cells #[.int .u8 x.f0, .int .u8 x.f1, .int .i8 x.f2] 48)).drew.cell? ⟨wr.heap.size, 0, none⟩ = some (.int .u8 x.f0) := d0
              have D1 : (wr.alloc (.cells #[.int .u8 x.f0, .int .u8 x.f1, .int .i8 x.f2] 48)).drew.cell? ⟨wr.heap.size, 1, none⟩ = some (.int .u8 x.f1) := d1
              have HWQ := Lib.hid (below_drew1 (below_step HW.out HB2.out))
              clear d0 d1 d2 c28 hx0 hx1 hx2 HW K0
              refine start_ (n := 14) (S := fun w' => Below ((wr.alloc (.cells #[.int .u8 x.f0, .int .u8 x.f1, .int .i8 x.f2] 48))).drew.heap.size ((wr.alloc (.cells #[.int .u8 x.f0, .int .u8 x.f1, .int .i8 x.f2] 48))).drew w') (ds := []) #[false, false, false, false, false, false, false, false, false, false, false, false, false, false] (by kernel_rfl) rfl rfl (Below.refl _ _) (fun hHeld => ?_)
              generalize (wr.alloc (.cells #[.int .u8 x.f0, .int .u8 x.f1, .int .i8 x.f2] 48)).drew = wq at D0 D1 HWQ hHeld ⊢
              refine pure_ (i := 0) (N := some 72) (v := ?_) (a' := ?_) #[true, false, false, false, false, false, false, false, false, false, false, false, false, false] rfl rfl (by kernel_rfl) (fun _ _ _ h => h) (Or.inl ⟨by rfl, ?_⟩) ?_ ?_
              rotate_left
              · intro w'
                go_simp
                with_reducible rfl
              rotate_left
              · simp only [Act.put, List.setIfInBounds_toArray, List.set_cons_zero, List.set_cons_succ, i64_w, i32_w]
                rfl
              refine pure_ (i := 1) (N := some 73) (v := ?_) (a' := ?_) #[true, true, false, false, false, false, false, false, false, false, false, false, false, false] rfl rfl (by kernel_rfl) (fun _ _ _ h => h) (Or.inl ⟨by rfl, ?_⟩) ?_ ?_
              rotate_left
              · intro w'
                go_simp
                with_reducible rfl
              rotate_left
              · simp only [Act.put, List.setIfInBounds_toArray, List.set_cons_zero, List.set_cons_succ, i64_w, i32_w]
                rfl
              refine take_ (i := 2) (N := some 74) (v := ?_) (a' := ?_) #[true, true, true, false, false, false, false, false, false, false, false, false, false, false] rfl rfl (by kernel_rfl) (fun _ _ _ h => h) (Or.inl ⟨by rfl, ?_⟩) hHeld ?_ ?_
              rotate_left
              · rintro w' hS
                have q_D0 := bcell hS D0
                have q_D1 := bcell hS D1
                go_simp
                with_reducible rfl
              rotate_left
              · simp only [Act.put, List.setIfInBounds_toArray, List.set_cons_zero, List.set_cons_succ, i64_w, i32_w]
                rfl
              refine pure_ (i := 3) (N := some 75) (v := ?_) (a' := ?_) #[true, true, true, true, false, false, false, false, false, false, false, false, false, false] rfl rfl (by kernel_rfl) (fun _ _ _ h => h) (Or.inl ⟨by rfl, ?_⟩) ?_ ?_
              rotate_left
              · intro w'
                go_simp
                with_reducible rfl
              rotate_left
              · simp only [Act.put, List.setIfInBounds_toArray, List.set_cons_zero, List.set_cons_succ, i64_w, i32_w]
                rfl
              refine take_ (i := 4) (N := some 76) (v := ?_) (a' := ?_) #[true, true, true, true, true, false, false, false, false, false, false, false, false, false] rfl rfl (by kernel_rfl) (fun _ _ _ h => h) (Or.inl ⟨by rfl, ?_⟩) hHeld ?_ ?_
              rotate_left
              · rintro w' hS
                have q_D0 := bcell hS D0
                have q_D1 := bcell hS D1
                go_simp
                with_reducible rfl
              rotate_left
              · simp only [Act.put, List.setIfInBounds_toArray, List.set_cons_zero, List.set_cons_succ, i64_w, i32_w]
                rfl
              refine pure_ (i := 7) (N := some 79) (v := ?_) (a' := ?_) #[true, true, true, true, true, false, false, true, false, false, false, false, false, false] rfl rfl (by kernel_rfl) (fun _ _ _ h => h) (Or.inl ⟨by rfl, ?_⟩) ?_ ?_
              rotate_left
              · intro w'
                go_simp
                with_reducible rfl
              rotate_left
              · simp only [Act.put, List.setIfInBounds_toArray, List.set_cons_zero, List.set_cons_succ, i64_w, i32_w]
                rfl
              refine pure_ (i := 9) (N := some 81) (v := ?_) (a' := ?_) #[true, true, true, true, true, false, false, true, false, true, false, false, false, false] rfl rfl (by kernel_rfl) (fun _ _ _ h => h) (Or.inl ⟨by rfl, ?_⟩) ?_ ?_
              rotate_left
              · intro w'
                go_simp
                with_reducible rfl
              rotate_left
              · simp only [Act.put, List.setIfInBounds_toArray, List.set_cons_zero, List.set_cons_succ, i64_w, i32_w]
                rfl
              refine two_ (i := 5) (j := 10) (Ni := some 77) (Nj := some 82) #[true, true, true, true, true, true, false, true, false, true, false, false, false, false] #[true, true, true, true, true, false, false, true, false, true, true, false, false, false] rfl rfl rfl rfl (by kernel_rfl) (by decide) (by decide) (fun K hK => ?_) (fun K hK => ?_)
              · skip
                refine Kd.R_lit_step (Kd.int .u8) _ 5 ?hgu1 (N := 77) ?hdu1 (xs := ([x.f0, x.f1] : List Int)) (inner := [.int .u8 x.f0, .int .u8 x.f1]) (ok := fun _ => True) (okp := fun _ => True) ?hru1 ?hpu1 (fun _ hk => hk) trivial (Below.refl _ _) (Nat.le_refl _) (by simp) ?_
                (case hdu1 => rfl)
                (case hgu1 => rfl)
                (case hru1 => first | (go_simp; done) | (go_simp; rfl))
                (case hpu1 => exact (Reps.one (show Kd.M (Kd.int .u8) _ _ _ x.f0 [.int .u8 x.f0] from rfl) (Reps.one (show Kd.M (Kd.int .u8) _ _ _ x.f1 [.int .u8 x.f1] from rfl) (Reps.none _ _))))
                intro vl wz ho hb hg_ hnew_
                clear hg_ hnew_
                have HLT := Lib.hid ho
                clear ho
                have hS_ := below_step hHeld hb
                clear hb hHeld
                refine hK.out _ _ hS_ (fun hHeld => ?_)
                clear hK K hS_
                refine norm_ (a' := ?_) ?_ ?_
                rotate_left
                · show Act.put _ (some 77) _ = _
                  simp only [Act.put, List.setIfInBounds_toArray, List.set_cons_zero, List.set_cons_succ, i64_w, i32_w]
                  rfl
                refine two_ (i := 6) (j := 10) (Ni := some 78) (Nj := some 82) #[true, true, true, true, true, true, true, true, false, true, false, false, false, false] #[true, true, true, true, true, true, false, true, false, true, true, false, false, false] rfl rfl rfl rfl (by kernel_rfl) (by decide) (by decide) (fun K hK => ?_) (fun K hK => ?_)
                · skip
                  have hcv := own_string (P := Tryd.prog) Tryd.underlying50 Tryd.underlying5 Tryd.underlying9 (Kd.own_of_R HLT.out)
                  rw [← HSB.out] at hcv
                  refine value_ (w1 := ?_) (v := ?_) (by rfl) rfl ?_ ?_
                  rotate_left 2
                  · go_simp
                    constructor
                    · rfl
                    · rfl
                  clear hcv HLT
                  refine hK.out _ _ hHeld (fun hHeld => ?_)
                  clear hK K
                  refine norm_ (a' := ?_) ?_ ?_
                  rotate_left
                  · show Act.put _ (some 78) _ = _
                    simp only [Act.put, List.setIfInBounds_toArray, List.set_cons_zero, List.set_cons_succ, i64_w, i32_w]
                    rfl
                  refine pure_ (i := 8) (N := some 80) (v := ?_) (a' := ?_) #[true, true, true, true, true, true, true, true, true, true, false, false, false, false] rfl rfl (by kernel_rfl) (fun _ _ _ h => h) (Or.inl ⟨by rfl, ?_⟩) ?_ ?_
                  rotate_left
                  · intro w'
                    go_simp
                    with_reducible rfl
                  rotate_left
                  · simp only [Act.put, List.setIfInBounds_toArray, List.set_cons_zero, List.set_cons_succ, i64_w, i32_w]
                    rfl
                  refine one_ (i := 10) (N := some 82) #[true, true, true, true, true, true, true, true, true, true, true, false, false, false] rfl rfl (by kernel_rfl) (by decide) (fun K hK => ?_)
                  refine goes_ Tryd.func35 (by kernel_rfl) rfl #[.int .i64 x.f2] (by rfl) rfl rfl (by (try simp only [List.map_toArray, List.map_cons, List.map_nil]); first | done | rfl | (simp only [List.length_drop, List.length_take]; rfl)) ?_
                  with_reducible refine (spec_Decimal.calls 18 x.f2 nb _ HD.out).mono ?_
                  rintro e wz ⟨rfl, hb⟩
                  refine ⟨_, rfl, ?_⟩
                  have hS_ := below_step hHeld hb
                  clear hb hHeld
                  refine hK.out _ _ hS_ (fun hHeld => ?_)
                  clear hK K hS_
                  refine norm_ (a' := ?_) ?_ ?_
                  rotate_left
                  · show Act.put _ (some 82) _ = _
                    simp only [Act.put, List.setIfInBounds_toArray, List.set_cons_zero, List.set_cons_succ, i64_w, i32_w]
                    rfl
                  refine pure_ (i := 11) (N := some 83) (v := ?_) (a' := ?_) #[true, true, true, true, true, true, true, true, true, true, true, true, false, false] rfl rfl (by kernel_rfl) (fun _ _ _ h => h) (Or.inl ⟨by rfl, ?_⟩) ?_ ?_
                  rotate_left
                  · intro w'
                    go_simp
                    with_reducible rfl
                  rotate_left
                  · simp only [Act.put, List.setIfInBounds_toArray, List.set_cons_zero, List.set_cons_succ, i64_w, i32_w]
                    rfl
                  refine pure_ (i := 12) (N := some 84) (v := ?_) (a' := ?_) #[true, true, true, true, true, true, true, true, true, true, true, true, true, false] rfl rfl (by kernel_rfl) (fun _ _ _ h => h) (Or.inl ⟨by rfl, ?_⟩) ?_ ?_
                  rotate_left
                  · intro w'
                    go_simp
                    with_reducible rfl
                  rotate_left
                  · simp only [Act.put, List.setIfInBounds_toArray, List.set_cons_zero, List.set_cons_succ, i64_w, i32_w]
                    rfl
                  refine pure_ (i := 13) (N := some 3) (v := ?_) (a' := ?_) #[true, true, true, true, true, true, true, true, true, true, true, true, true, true] rfl rfl (by kernel_rfl) (fun _ _ _ h => h) (Or.inl ⟨by rfl, ?_⟩) ?_ ?_
                  rotate_left
                  · intro w'
                    go_simp
                    with_reducible rfl
                  rotate_left
                  · simp only [Act.put, List.setIfInBounds_toArray, List.set_cons_zero, List.set_cons_succ, i64_w, i32_w]
                    rfl
                  refine done_ (by kernel_rfl) ?_
                  go_wp2
                  go_roundw
                  case measure => simp only [intOf]; omega
                  case rel => exact ⟨j + 1, _, by omega, rfl, by go_num, PS, Lib.hid (below_step HWQ.out hHeld)⟩
                · skip
                  refine goes_ Tryd.func35 (by kernel_rfl) rfl #[.int .i64 x.f2] (by rfl) rfl rfl (by (try simp only [List.map_toArray, List.map_cons, List.map_nil]); first | done | rfl | (simp only [List.length_drop, List.length_take]; rfl)) ?_
                  with_reducible refine (spec_Decimal.calls 18 x.f2 nb _ HD.out).mono ?_
                  rintro e wz ⟨rfl, hb⟩
                  refine ⟨_, rfl, ?_⟩
                  have m_HLT := Lib.hid (Kd.R_below HLT.out hb)
                  clear HLT
                  have HLT := m_HLT
                  clear m_HLT
                  have hS_ := below_step hHeld hb
                  clear hb hHeld
                  refine hK.out _ _ hS_ (fun hHeld => ?_)
                  clear hK K hS_
                  refine norm_ (a' := ?_) ?_ ?_
                  rotate_left
                  · show Act.put _ (some 82) _ = _
                    simp only [Act.put, List.setIfInBounds_toArray, List.set_cons_zero, List.set_cons_succ, i64_w, i32_w]
                    rfl
                  refine one_ (i := 6) (N := some 78) #[true, true, true, true, true, true, true, true, false, true, true, false, false, false] rfl rfl (by kernel_rfl) (by decide) (fun K hK => ?_)
                  have hcv := own_string (P := Tryd.prog) Tryd.underlying50 Tryd.underlying5 Tryd.underlying9 (Kd.own_of_R HLT.out)
                  rw [← HSB.out] at hcv
                  refine value_ (w1 := ?_) (v := ?_) (by rfl) rfl ?_ ?_
                  rotate_left 2
                  · go_simp
                    constructor
                    · rfl
                    · rfl
                  clear hcv HLT
                  refine hK.out _ _ hHeld (fun hHeld => ?_)
                  clear hK K
                  refine norm_ (a' := ?_) ?_ ?_
                  rotate_left
                  · show Act.put _ (some 78) _ = _
                    simp only [Act.put, List.setIfInBounds_toArray, List.set_cons_zero, List.set_cons_succ, i64_w, i32_w]
                    rfl
                  refine pure_ (i := 8) (N := some 80) (v := ?_) (a' := ?_) #[true, true, true, true, true, true, true, true, true, true, true, false, false, false] rfl rfl (by kernel_rfl) (fun _ _ _ h => h) (Or.inl ⟨by rfl, ?_⟩) ?_ ?_
                  rotate_left
                  · intro w'
                    go_simp
                    with_reducible rfl
                  rotate_left
                  · simp only [Act.put, List.setIfInBounds_toArray, List.set_cons_zero, List.set_cons_succ, i64_w, i32_w]
                    rfl
                  refine pure_ (i := 11) (N := some 83) (v := ?_) (a' := ?_) #[true, true, true, true, true, true, true, true, true, true, true, true, false, false] rfl rfl (by kernel_rfl) (fun _ _ _ h => h) (Or.inl ⟨by rfl, ?_⟩) ?_ ?_
                  rotate_left
                  · intro w'
                    go_simp
                    with_reducible rfl
                  rotate_left
                  · simp only [Act.put, List.setIfInBounds_toArray, List.set_cons_zero, List.set_cons_succ, i64_w, i32_w]
                    rfl
                  refine pure_ (i := 12) (N := some 84) (v := ?_) (a' := ?_) #[true, true, true, true, true, true, true, true, true, true, true, true, true, false] rfl rfl (by kernel_rfl) (fun _ _ _ h => h) (Or.inl ⟨by rfl, ?_⟩) ?_ ?_
                  rotate_left
                  · intro w'
                    go_simp
                    with_reducible rfl
                  rotate_left
                  · simp only [Act.put, List.setIfInBounds_toArray, List.set_cons_zero, List.set_cons_succ, i64_w, i32_w]
                    rfl
                  refine pure_ (i := 13) (N := some 3) (v := ?_) (a' := ?_) #[true, true, true, true, true, true, true, true, true, true, true, true, true, true] rfl rfl (by kernel_rfl) (fun _ _ _ h => h) (Or.inl ⟨by rfl, ?_⟩) ?_ ?_
                  rotate_left
                  · intro w'
                    go_simp
                    with_reducible rfl
                  rotate_left
                  · simp only [Act.put, List.setIfInBounds_toArray, List.set_cons_zero, List.set_cons_succ, i64_w, i32_w]
                    rfl
                  refine done_ (by kernel_rfl) ?_
                  go_wp2
                  go_roundw
                  case measure => simp only [intOf]; omega
                  case rel => exact ⟨j + 1, _, by omega, rfl, by go_num, PS, Lib.hid (below_step HWQ.out hHeld)⟩
              · skip
                refine goes_ Tryd.func35 (by kernel_rfl) rfl #[.int .i64 x.f2] (by rfl) rfl rfl (by (try simp only [List.map_toArray, List.map_cons, List.map_nil]); first | done | rfl | (simp only [List.length_drop, List.length_take]; rfl)) ?_
                with_reducible refine (spec_Decimal.calls 18 x.f2 nb _ HD.out).mono ?_
                rintro e wz ⟨rfl, hb⟩
                refine ⟨_, rfl, ?_⟩
                have hS_ := below_step hHeld hb
                clear hb hHeld
                refine hK.out _ _ hS_ (fun hHeld => ?_)
                clear hK K hS_
                refine norm_ (a' := ?_) ?_ ?_
                rotate_left
                · show Act.put _ (some 82) _ = _
                  simp only [Act.put, List.setIfInBounds_toArray, List.set_cons_zero, List.set_cons_succ, i64_w, i32_w]
                  rfl
                refine one_ (i := 5) (N := some 77) #[true, true, true, true, true, true, false, true, false, true, true, false, false, false] rfl rfl (by kernel_rfl) (by decide) (fun K hK => ?_)
                refine Kd.R_lit_step (Kd.int .u8) _ 5 ?hgu2 (N := 77) ?hdu2 (xs := ([x.f0, x.f1] : List Int)) (inner := [.int .u8 x.f0, .int .u8 x.f1]) (ok := fun _ => True) (okp := fun _ => True) ?hru2 ?hpu2 (fun _ hk => hk) trivial (Below.refl _ _) (Nat.le_refl _) (by simp) ?_
                (case hdu2 => rfl)
                (case hgu2 => rfl)
                (case hru2 => first | (go_simp; done) | (go_simp; rfl))
                (case hpu2 => exact (Reps.one (show Kd.M (Kd.int .u8) _ _ _ x.f0 [.int .u8 x.f0] from rfl) (Reps.one (show Kd.M (Kd.int .u8) _ _ _ x.f1 [.int .u8 x.f1] from rfl) (Reps.none _ _))))
                intro vl wz ho hb hg_ hnew_
                clear hg_ hnew_
                have HLT := Lib.hid ho
                clear ho
                have hS_ := below_step hHeld hb
                clear hb hHeld
                refine hK.out _ _ hS_ (fun hHeld => ?_)
                clear hK K hS_
                refine norm_ (a' := ?_) ?_ ?_
                rotate_left
                · show Act.put _ (some 77) _ = _
                  simp only [Act.put, List.setIfInBounds_toArray, List.set_cons_zero, List.set_cons_succ, i64_w, i32_w]
                  rfl
                refine one_ (i := 6) (N := some 78) #[true, true, true, true, true, true, true, true, false, true, true, false, false, false] rfl rfl (by kernel_rfl) (by decide) (fun K hK => ?_)
                have hcv := own_string (P := Tryd.prog) Tryd.underlying50 Tryd.underlying5 Tryd.underlying9 (Kd.own_of_R HLT.out)
                rw [← HSB.out] at hcv
                refine value_ (w1 := ?_) (v := ?_) (by rfl) rfl ?_ ?_
                rotate_left 2
                · go_simp
                  constructor
                  · rfl
                  · rfl
                clear hcv HLT
                refine hK.out _ _ hHeld (fun hHeld => ?_)
                clear hK K
                refine norm_ (a' := ?_) ?_ ?_
                rotate_left
                · show Act.put _ (some 78) _ = _
                  simp only [Act.put, List.setIfInBounds_toArray, List.set_cons_zero, List.set_cons_succ, i64_w, i32_w]
                  rfl
                refine pure_ (i := 8) (N := some 80) (v := ?_) (a' := ?_) #[true, true, true, true, true, true, true, true, true, true, true, false, false, false] rfl rfl (by kernel_rfl) (fun _ _ _ h => h) (Or.inl ⟨by rfl, ?_⟩) ?_ ?_
                rotate_left
                · intro w'
                  go_simp
                  with_reducible rfl
                rotate_left
                · simp only [Act.put, List.setIfInBounds_toArray, List.set_cons_zero, List.set_cons_succ, i64_w, i32_w]
                  rfl
                refine pure_ (i := 11) (N := some 83) (v := ?_) (a' := ?_) #[true, true, true, true, true, true, true, true, true, true, true, true, false, false] rfl rfl (by kernel_rfl) (fun _ _ _ h => h) (Or.inl ⟨by rfl, ?_⟩) ?_ ?_
                rotate_left
                · intro w'
                  go_simp
                  with_reducible rfl
                rotate_left
                · simp only [Act.put, List.setIfInBounds_toArray, List.set_cons_zero, List.set_cons_succ, i64_w, i32_w]
                  rfl
                refine pure_ (i := 12) (N := some 84) (v := ?_) (a' := ?_) #[true, true, true, true, true, true, true, true, true, true, true, true, true, false] rfl rfl (by kernel_rfl) (fun _ _ _ h => h) (Or.inl ⟨by rfl, ?_⟩) ?_ ?_
                rotate_left
                · intro w'
                  go_simp
                  with_reducible rfl
                rotate_left
                · simp only [Act.put, List.setIfInBounds_toArray, List.set_cons_zero, List.set_cons_succ, i64_w, i32_w]
                  rfl
                refine pure_ (i := 13) (N := some 3) (v := ?_) (a' := ?_) #[true, true, true, true, true, true, true, true, true, true, true, true, true, true] rfl rfl (by kernel_rfl) (fun _ _ _ h => h) (Or.inl ⟨by rfl, ?_⟩) ?_ ?_
                rotate_left
                · intro w'
                  go_simp
                  with_reducible rfl
                rotate_left
                · simp only [Act.put, List.setIfInBounds_toArray, List.set_cons_zero, List.set_cons_succ, i64_w, i32_w]
                  rfl
                refine done_ (by kernel_rfl) ?_
                go_wp2
                go_roundw
                case measure => simp only [intOf]; omega
                case rel => exact ⟨j + 1, _, by omega, rfl, by go_num, PS, Lib.hid (below_step HWQ.out hHeld)⟩
        · have hlj2 : ¬ (j : Int) < (l.length : Int) := by omega
          have E2 := Lib.hid (show pt = faceT ws sp gp l by rw [PE.out, List.take_of_length_le (show l.length ≤ j by omega), ← HLF.out]; rfl)
          go_wp2
          go_ret
          exact ⟨by show Ending.returned (.string pt) = _; rw [E2.out], HW.out⟩
end Go.Proofs.YtkldhleiipfaaaaDoor.Q
