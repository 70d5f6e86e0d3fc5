-- Joined by joinmods.py out of: QlawsmarkPairS QlawsheldPairS QhandMarks
import Derived.Test.YtkldhleiipfaaaaDoorQ0
import Derived.Test.YtkldhleiipfaaaaDoorQhandFace
section
-- WRITTEN BY A PROGRAM OF THIS SESSION (xprint.py, which runs the kit's printer with changes). Lean checks it.
namespace Go.Proofs.YtkldhleiipfaaaaDoor.Q
open Go.RowKit Go.Proofs.YtkldhleiipfaaaaDoorW.PrintWords Go.Proofs.YtkldhleiipfaaaaDoorW.PrintLast Go.Proofs.YtkldhleiipfaaaaDoorW.PrintMore
set_option linter.unusedVariables false
set_option linter.unusedSimpArgs false
attribute [local go_sem] max2_int min2_int max_two min_two max_three min_three max_four min_four   -- for this text's walks alone
/-! ### laws_markPairS: function 32 -/
def laws_markPairS.l0 : Nat → List (S48) → Int → Int → Option (Int × (List (S48)))
  | 0, _, _, _ => none
  | k + 1, x0, x1, x5 => if x5 < (x0.length : Int) then (if 0 ≤ x5 then ((some (x0.set (x5 : Int).toNat (⟨(x1) % 256, (rd_T48 x0 x5).f1, (rd_T48 x0 x5).f2⟩ : S48) : List (S48))).bind fun y321 => ((some (y321.set (x5 : Int).toNat (⟨(rd_T48 y321 x5).f0, (wrap64 (x1 + 1)) % 256, (rd_T48 y321 x5).f2⟩ : S48) : List (S48))).bind fun y322 => (laws_markPairS.l0 k (y322.set (x5 : Int).toNat (⟨(rd_T48 y322 x5).f0, (rd_T48 y322 x5).f1, IntKind.i8.wrap (wrap64 ((wrap64 (x1 + 1)) + 1))⟩ : S48)) (wrap64 ((wrap64 ((wrap64 (x1 + 1)) + 1)) + 1)) (wrap64 (x5 + 1))))) else (none)) else (some (x1, x0))
def laws_markPairS.f (k : Nat) (l0 : List (S48)) (a1 : Int) : Option (Int × (List (S48))) := laws_markPairS.l0 k l0 a1 0
theorem laws_markPairS.mono_l : ∀ k, (∀ y0 y1 y2, LeO (laws_markPairS.l0 k y0 y1 y2) (laws_markPairS.l0 (k + 1) y0 y1 y2))
  | 0 => fun _ _ _ r h => by simp [laws_markPairS.l0] at h
  | k + 1 => by
    have ih0 := laws_markPairS.mono_l k
    · intro y0 y1 y2
      unfold laws_markPairS.l0
      repeat' first
      | (with_reducible exact ih0 _ _ _)
      | (with_reducible exact LeO.refl _)
      | (with_reducible exact LeO.none _)
      | (with_reducible refine LeO.ite ?_ ?_)
      | (with_reducible refine LeO.bind ?_ (fun _ => ?_))
      | exact ih0 _ _ _
      | exact LeO.none _
      | refine LeO.ite ?_ ?_
      | refine LeO.bind ?_ (fun _ => ?_)
theorem laws_markPairS.mono : ∀ a0 a1 k, LeO (laws_markPairS.f k a0 a1) (laws_markPairS.f (k + 1) a0 a1) := by
  intro a0 a1 k
  have ih0 := laws_markPairS.mono_l k
  unfold laws_markPairS.f
  repeat' first
      | (with_reducible exact ih0 _ _ _)
      | (with_reducible exact LeO.refl _)
      | (with_reducible exact LeO.none _)
      | (with_reducible refine LeO.ite ?_ ?_)
      | (with_reducible refine LeO.bind ?_ (fun _ => ?_))
      | exact ih0 _ _ _
      | exact LeO.none _
      | refine LeO.ite ?_ ?_
      | refine LeO.bind ?_ (fun _ => ?_)
set_option maxHeartbeats 8000000 in
set_option maxRecDepth 100000 in
theorem laws_markPairS.calls (k : Nat) (P0_ : Nat → Prop) (u9000_ : Value) (l0 : List (S48)) (a1 : Int) (r1 : Int) (r2 : List (S48)) (w0 w : World) (hB : Below w0.heap.size w0 w) (ho0 : Kd.R k48 48 w w0.heap.size P0_ u9000_ l0) (h : laws_markPairS.f k l0 a1 = some (r1, r2)) :
    Calls Tryd.prog 32 #[u9000_, .int .i64 a1] w fun e w' => e = .returned (.int .i64 r1) ∧ Kd.R k48 48 w' w0.heap.size (fun k_ => (P0_ k_ ∨ w.heap.size ≤ k_)) u9000_ r2 ∧ Below w0.heap.size w0 w' ∧ Kept w w' (fun k_ => P0_ k_) := by
  have HO0 := Aside0.mk (show Kd.R k48 48 w w0.heap.size (fun k_ => (P0_ k_ ∨ w.heap.size ≤ k_)) u9000_ l0 from Kd.R_mono ho0 (fun k_ hk => (.inl hk)))
  have HK := Aside0.mk (Kept.refl w (fun k_ => P0_ k_))
  have HW0 := Aside0.mk hB.size
  have HB := Aside0.mk hB
  clear hB
  have H : (laws_markPairS.l0 k l0 a1 0) = some (r1, r2) := h
  clear h
  have H' := Aside0.mk H
  clear H
  go_enter Tryd.func32, Tryd.ntmps32
  go_wp2
  go_loopg [1, 5] k (fun kq v1 v5 w' => ∃ (x0_1 : List (S48)) (x1_1 : Int) (x5_1 : Int), v1 = .int .i64 x1_1 ∧ v5 = .int .i64 x5_1 ∧ Aside0 (laws_markPairS.l0 kq x0_1 x1_1 x5_1 = some (r1, r2)) ∧ Aside0 (kq ≤ k) ∧ Aside0 (Kd.R k48 48 w' w0.heap.size (fun k_ => (P0_ k_ ∨ w.heap.size ≤ k_)) u9000_ x0_1) ∧ Aside0 (Kept w w' (fun k_ => P0_ k_)) ∧ Aside0 (Below w0.heap.size w0 w'))
  case atStart => exact ⟨(l0), (a1), (0), (by first | rfl | (simp; done) | (simp [*]; done)), (by first | rfl | (simp; done) | (simp [*]; done)), H', ⟨Nat.le_refl _⟩, ⟨by (with_reducible repeat (first | apply Kd.R_alloc | apply Kd.R_drewN | apply Kd.R_drew)); exact HO0.out⟩, ⟨by repeat (first | (with_reducible first | exact HK.out | apply Kept.alloc | apply Kept.drewN | apply Kept.drew) | exact HK.out)⟩, ⟨by repeat (first | (with_reducible first | exact HB.out | apply below_alloc | apply pw_below_drewN | apply below_drew1) | exact HB.out)⟩⟩
  case round =>
    clear H'
    try clear p2
    obtain ⟨x0_1, x1_1, x5_1, rfl, rfl, HA, HK1, HO_0, HK, HB⟩ := hrel
    cases gk with
    | zero => exact absurd HA.out (by simp [laws_markPairS.l0])
    | succ k1 =>
      have H := HA.out
      clear HA
      simp only [laws_markPairS.l0] at H
      by_cases c3 : x5_1 < (x0_1.length : Int)
      · rw [if_pos c3] at H
        have c3b0 : decide (x5_1 < (x0_1.length : Int)) = true := decide_eq_true c3
        clear c3
        by_cases c4 : 0 ≤ x5_1
        · rw [if_pos c4] at H
          have c4b0 : decide (0 ≤ x5_1) = true := decide_eq_true c4
          clear c4
          obtain ⟨y321, hy321⟩ : ∃ y_ : List (S48), y_ = (x0_1.set (x5_1 : Int).toNat (⟨(x1_1) % 256, (rd_T48 x0_1 x5_1).f1, (rd_T48 x0_1 x5_1).f2⟩ : S48)) := ⟨_, rfl⟩
          replace H : ((some (y321.set (x5_1 : Int).toNat (⟨(rd_T48 y321 x5_1).f0, (wrap64 (x1_1 + 1)) % 256, (rd_T48 y321 x5_1).f2⟩ : S48) : List (S48))).bind fun y322 => (laws_markPairS.l0 k1 (y322.set (x5_1 : Int).toNat (⟨(rd_T48 y322 x5_1).f0, (rd_T48 y322 x5_1).f1, IntKind.i8.wrap (wrap64 ((wrap64 (x1_1 + 1)) + 1))⟩ : S48)) (wrap64 ((wrap64 ((wrap64 (x1_1 + 1)) + 1)) + 1)) (wrap64 (x5_1 + 1)))) = some (r1, r2) := by first | (rw [hy321]; with_reducible exact H) | (have H2_ := (Option.bind_some _ _).symm.trans H; rw [hy321]; with_reducible exact H2_) | (have H2_ := (Option.bind_some _ _).symm.trans H; with_reducible exact H2_) | with_reducible exact H | (rw [hy321]; exact H) | exact H
          have Ny321 := Aside0.mk hy321
          clear hy321
          obtain ⟨y322, hy322⟩ : ∃ y_ : List (S48), y_ = (y321.set (x5_1 : Int).toNat (⟨(rd_T48 y321 x5_1).f0, (wrap64 (x1_1 + 1)) % 256, (rd_T48 y321 x5_1).f2⟩ : S48)) := ⟨_, rfl⟩
          replace H : (laws_markPairS.l0 k1 (y322.set (x5_1 : Int).toNat (⟨(rd_T48 y322 x5_1).f0, (rd_T48 y322 x5_1).f1, IntKind.i8.wrap (wrap64 ((wrap64 (x1_1 + 1)) + 1))⟩ : S48)) (wrap64 ((wrap64 ((wrap64 (x1_1 + 1)) + 1)) + 1)) (wrap64 (x5_1 + 1))) = some (r1, r2) := by first | (rw [hy322]; with_reducible exact H) | (have H2_ := (Option.bind_some _ _).symm.trans H; rw [hy322]; with_reducible exact H2_) | (have H2_ := (Option.bind_some _ _).symm.trans H; with_reducible exact H2_) | with_reducible exact H | (rw [hy322]; exact H) | exact H
          have Ny322 := Aside0.mk hy322
          clear hy322
          obtain ⟨y323, hy323⟩ : ∃ y_ : List (S48), y_ = (y322.set (x5_1 : Int).toNat (⟨(rd_T48 y322 x5_1).f0, (rd_T48 y322 x5_1).f1, IntKind.i8.wrap (wrap64 ((wrap64 (x1_1 + 1)) + 1))⟩ : S48)) := ⟨_, rfl⟩
          replace H : (laws_markPairS.l0 k1 y323 (wrap64 ((wrap64 ((wrap64 (x1_1 + 1)) + 1)) + 1)) (wrap64 (x5_1 + 1))) = some (r1, r2) := by first | (rw [hy323]; with_reducible exact H) | (have H2_ := (Option.bind_some _ _).symm.trans H; rw [hy323]; with_reducible exact H2_) | (have H2_ := (Option.bind_some _ _).symm.trans H; with_reducible exact H2_) | with_reducible exact H | (rw [hy323]; exact H) | exact H
          have Ny323 := Aside0.mk hy323
          clear hy323
          have H' := Aside0.mk H
          clear H
          obtain ⟨Ao8, co8, eo8⟩ := Kd.R_slice HO_0.out
          subst eo8
          have p5 : 0 ≤ (x5_1 : Int) := of_decide_eq_true (by first | (with_reducible assumption) | assumption)
          have q5 : (x5_1 : Int) < ((x0_1.length : Int) : Int) := of_decide_eq_true (by first | (with_reducible assumption) | assumption)
          obtain ⟨go5, co5, eo5, gb5, gl5, cl5, HG5⟩ := Kd.R_form HO_0.out (by omega)
          (first | cases eo5 | (injection eo5 with ea_ en_ ec_; (first | subst ea_ | (injection ea_ with ea_; subst ea_)); subst ec_; clear en_))
          have GB5 := Aside0.mk gb5
          have GG5 := Aside0.mk HG5
          clear gb5 gl5 HG5
          have HMgo5 := Aside0.mk (show (P0_ go5 ∨ w.heap.size ≤ go5) from (HO_0.out.1 _ rfl))
          obtain ⟨ce5, hcl5, hM5, hcc5, hfr5⟩ := Kd.R_elem HO_0.out z48 (x5_1 : Int) p5 q5
          obtain rfl := k48_openM hM5
          have hx5_0 : wr.cell? ⟨go5, (x5_1 : Int).toNat * 3, none⟩ = some (.int .u8 ((rd_T48 x0_1 x5_1).f0)) := hcc5 0 _ rfl
          have hx5_1 : wr.cell? ⟨go5, (x5_1 : Int).toNat * 3 + 1, none⟩ = some (.int .u8 ((rd_T48 x0_1 x5_1).f1)) := hcc5 1 _ rfl
          have hx5_2 : wr.cell? ⟨go5, (x5_1 : Int).toNat * 3 + 2, none⟩ = some (.int .i8 ((rd_T48 x0_1 x5_1).f2)) := hcc5 2 _ rfl
          have hf5_0 : wr.frozen? ⟨go5, (x5_1 : Int).toNat * 3, none⟩ = false := hfr5 0
          have hf5_1 : wr.frozen? ⟨go5, (x5_1 : Int).toNat * 3 + 1, none⟩ = false := hfr5 1
          have hf5_2 : wr.frozen? ⟨go5, (x5_1 : Int).toNat * 3 + 2, none⟩ = false := hfr5 2
          clear hcl5 hcc5 hfr5 hM5
          replace p5 := eq_true p5
          replace q5 := eq_true q5
          have HX9 := Aside0.mk (show Kd.R k48 48 wr w0.heap.size (fun k_ => (P0_ k_ ∨ w.heap.size ≤ k_)) (.slice (some ⟨go5, 0, none⟩) x0_1.length co8) x0_1 from (by (with_reducible repeat (first | apply Kd.R_alloc | apply Kd.R_drewN | apply Kd.R_drew)); exact HO_0.out))
          obtain ⟨ce9, hcl9, hM9, hcc9, hfr9⟩ := Kd.R_elem HX9.out z48 (x5_1 : Int) (of_decide_eq_true (by first | (with_reducible assumption) | assumption)) (by have h_ : (x5_1 : Int) < ((x0_1.length : Int) : Int) := of_decide_eq_true (by first | (with_reducible assumption) | assumption); first | exact h_ | (have e_ := (Kd.R_reads' HO_0.out).1; omega) | simpa using h_)
          obtain rfl := k48_openM hM9
          have HP9 := Kd.R_seg HX9.out (x5_1 : Int) (of_decide_eq_true (by first | (with_reducible assumption) | assumption)) (by have h_ : (x5_1 : Int) < ((x0_1.length : Int) : Int) := of_decide_eq_true (by first | (with_reducible assumption) | assumption); first | exact h_ | (have e_ := (Kd.R_reads' HO_0.out).1; omega) | simpa using h_) (seg := [.int .u8 ((x1_1) % 256)]) (j := 0) hcl9 hcc9 (show 1 ≤ 3 from by decide) (x' := (⟨(x1_1) % 256, (rd_T48 x0_1 x5_1).f1, (rd_T48 x0_1 x5_1).f2⟩ : S48)) (k48_mkM _ _ _ (⟨(x1_1) % 256, (rd_T48 x0_1 x5_1).f1, (rd_T48 x0_1 x5_1).f2⟩ : S48) ) (fun _ hk => hk)
          have hx9_0 := hcc9 0 _ rfl
          (try simp only [show (k48).sz = 3 from rfl, Nat.mul_one, Nat.add_zero] at hx9_0)
          have hf9_0 := hfr9 0
          (try simp only [show (k48).sz = 3 from rfl, Nat.mul_one, Nat.add_zero] at hf9_0)
          clear hcl9 hcc9 hfr9 hM9
          go_wp2_with (first | ((with_reducible refine gate_store (t := 5) (p := 17) rfl ?_); refine store_event (t := 5) (p := 17) (v := ?vo_w10) (w1 := (wr.setCell ⟨go5, (x5_1 : Int).toNat * 3, none⟩ (.int .u8 ((x1_1) % 256)))) ?hg ?ho ?hn ?hr ?_; (case ho => rfl); (case hg => rfl); (case hn => rfl); (case hr => first | (go_simp; done) | (go_simp; rfl)); intro w10 hw; have hg : wr.grownBy w10 (some go5) := (by rw [hw]; exact HP9.2); have hp_ : Kd.R k48 48 w10 w0.heap.size (fun k_ => (P0_ k_ ∨ w.heap.size ≤ k_)) (.slice (some ⟨go5, 0, none⟩) x0_1.length co8) y321 := (by rw [hw, Ny321.out]; exact HP9.1); clear HP9; have n0_ := Aside0.mk (hp_); have n1_ := Aside0.mk ((by rw [hw]; exact below_set (HB.out) GB5.out : Below w0.heap.size w0 w10)); have n2_ := Aside0.mk (Kept.of_grown (S := (fun k_ => P0_ k_)) hg (by repeat (first | (with_reducible first | exact HK.out | apply Kept.alloc | apply Kept.drewN | apply Kept.drew) | exact HK.out)) (fun k_ e_ => (HO_0.out.1 k_ e_))); clear HO_0; clear HB; clear HK; have HO_0 := n0_; have HB := n1_; have HK := n2_; clear n0_ n1_ n2_; clear hg hw hp_; have p6 : 0 ≤ (x5_1 : Int) := of_decide_eq_true (by first | (with_reducible assumption) | assumption); have q6 : (x5_1 : Int) < ((x0_1.length : Int) : Int) := of_decide_eq_true (by first | (with_reducible assumption) | assumption); obtain ⟨ce6, hcl6, hM6, hcc6, hfr6⟩ := Kd.R_elem HO_0.out z48 (x5_1 : Int) p6 q6; obtain rfl := k48_openM hM6; have hx6_0 : w10.cell? ⟨go5, (x5_1 : Int).toNat * 3, none⟩ = some (.int .u8 ((rd_T48 y321 x5_1).f0)) := hcc6 0 _ rfl; have hx6_1 : w10.cell? ⟨go5, (x5_1 : Int).toNat * 3 + 1, none⟩ = some (.int .u8 ((rd_T48 y321 x5_1).f1)) := hcc6 1 _ rfl; have hx6_2 : w10.cell? ⟨go5, (x5_1 : Int).toNat * 3 + 2, none⟩ = some (.int .i8 ((rd_T48 y321 x5_1).f2)) := hcc6 2 _ rfl; have hf6_0 : w10.frozen? ⟨go5, (x5_1 : Int).toNat * 3, none⟩ = false := hfr6 0; have hf6_1 : w10.frozen? ⟨go5, (x5_1 : Int).toNat * 3 + 1, none⟩ = false := hfr6 1; have hf6_2 : w10.frozen? ⟨go5, (x5_1 : Int).toNat * 3 + 2, none⟩ = false := hfr6 2; clear hcl6 hcc6 hfr6 hM6; replace p6 := eq_true p6; replace q6 := eq_true q6; have HX11 := Aside0.mk (show Kd.R k48 48 w10 w0.heap.size (fun k_ => (P0_ k_ ∨ w.heap.size ≤ k_)) (.slice (some ⟨go5, 0, none⟩) x0_1.length co8) y321 from (by (with_reducible repeat (first | apply Kd.R_alloc | apply Kd.R_drewN | apply Kd.R_drew)); exact HO_0.out)); obtain ⟨ce11, hcl11, hM11, hcc11, hfr11⟩ := Kd.R_elem HX11.out z48 (x5_1 : Int) (of_decide_eq_true (by first | (with_reducible assumption) | assumption)) (by have h_ : (x5_1 : Int) < ((x0_1.length : Int) : Int) := of_decide_eq_true (by first | (with_reducible assumption) | assumption); first | exact h_ | (have e_ := (Kd.R_reads' HO_0.out).1; omega) | simpa using h_); obtain rfl := k48_openM hM11; have HP11 := Kd.R_seg HX11.out (x5_1 : Int) (of_decide_eq_true (by first | (with_reducible assumption) | assumption)) (by have h_ : (x5_1 : Int) < ((x0_1.length : Int) : Int) := of_decide_eq_true (by first | (with_reducible assumption) | assumption); first | exact h_ | (have e_ := (Kd.R_reads' HO_0.out).1; omega) | simpa using h_) (seg := [.int .u8 ((wrap64 (x1_1 + 1)) % 256)]) (j := 1) hcl11 hcc11 (show 2 ≤ 3 from by decide) (x' := (⟨(rd_T48 y321 x5_1).f0, (wrap64 (x1_1 + 1)) % 256, (rd_T48 y321 x5_1).f2⟩ : S48)) (k48_mkM _ _ _ (⟨(rd_T48 y321 x5_1).f0, (wrap64 (x1_1 + 1)) % 256, (rd_T48 y321 x5_1).f2⟩ : S48) ) (fun _ hk => hk); have hx11_1 := hcc11 1 _ rfl; (try simp only [show (k48).sz = 3 from rfl, Nat.mul_one, Nat.add_zero] at hx11_1); have hf11_1 := hfr11 1; (try simp only [show (k48).sz = 3 from rfl, Nat.mul_one, Nat.add_zero] at hf11_1); clear hcl11 hcc11 hfr11 hM11) | ((with_reducible refine gate_store (t := 5) (p := 25) rfl ?_); refine store_event (t := 5) (p := 25) (v := ?vo_w12) (w1 := (w10.setCell ⟨go5, (x5_1 : Int).toNat * 3 + 1, none⟩ (.int .u8 ((wrap64 (x1_1 + 1)) % 256)))) ?hg ?ho ?hn ?hr ?_; (case ho => rfl); (case hg => rfl); (case hn => rfl); (case hr => first | (go_simp; done) | (go_simp; rfl)); intro w12 hw; have hg : w10.grownBy w12 (some go5) := (by rw [hw]; exact HP11.2); have hp_ : Kd.R k48 48 w12 w0.heap.size (fun k_ => (P0_ k_ ∨ w.heap.size ≤ k_)) (.slice (some ⟨go5, 0, none⟩) x0_1.length co8) y322 := (by rw [hw, Ny322.out]; exact HP11.1); clear HP11; have n0_ := Aside0.mk (hp_); have n1_ := Aside0.mk ((by rw [hw]; exact below_set (HB.out) GB5.out : Below w0.heap.size w0 w12)); have n2_ := Aside0.mk (Kept.of_grown (S := (fun k_ => P0_ k_)) hg (by repeat (first | (with_reducible first | exact HK.out | apply Kept.alloc | apply Kept.drewN | apply Kept.drew) | exact HK.out)) (fun k_ e_ => (HO_0.out.1 k_ e_))); clear HO_0; clear HB; clear HK; have HO_0 := n0_; have HB := n1_; have HK := n2_; clear n0_ n1_ n2_; clear hg hw hp_; have p7 : 0 ≤ (x5_1 : Int) := of_decide_eq_true (by first | (with_reducible assumption) | assumption); have q7 : (x5_1 : Int) < ((x0_1.length : Int) : Int) := of_decide_eq_true (by first | (with_reducible assumption) | assumption); obtain ⟨ce7, hcl7, hM7, hcc7, hfr7⟩ := Kd.R_elem HO_0.out z48 (x5_1 : Int) p7 q7; obtain rfl := k48_openM hM7; have hx7_0 : w12.cell? ⟨go5, (x5_1 : Int).toNat * 3, none⟩ = some (.int .u8 ((rd_T48 y322 x5_1).f0)) := hcc7 0 _ rfl; have hx7_1 : w12.cell? ⟨go5, (x5_1 : Int).toNat * 3 + 1, none⟩ = some (.int .u8 ((rd_T48 y322 x5_1).f1)) := hcc7 1 _ rfl; have hx7_2 : w12.cell? ⟨go5, (x5_1 : Int).toNat * 3 + 2, none⟩ = some (.int .i8 ((rd_T48 y322 x5_1).f2)) := hcc7 2 _ rfl; have hf7_0 : w12.frozen? ⟨go5, (x5_1 : Int).toNat * 3, none⟩ = false := hfr7 0; have hf7_1 : w12.frozen? ⟨go5, (x5_1 : Int).toNat * 3 + 1, none⟩ = false := hfr7 1; have hf7_2 : w12.frozen? ⟨go5, (x5_1 : Int).toNat * 3 + 2, none⟩ = false := hfr7 2; clear hcl7 hcc7 hfr7 hM7; replace p7 := eq_true p7; replace q7 := eq_true q7; have HX13 := Aside0.mk (show Kd.R k48 48 w12 w0.heap.size (fun k_ => (P0_ k_ ∨ w.heap.size ≤ k_)) (.slice (some ⟨go5, 0, none⟩) x0_1.length co8) y322 from (by (with_reducible repeat (first | apply Kd.R_alloc | apply Kd.R_drewN | apply Kd.R_drew)); exact HO_0.out)); obtain ⟨ce13, hcl13, hM13, hcc13, hfr13⟩ := Kd.R_elem HX13.out z48 (x5_1 : Int) (of_decide_eq_true (by first | (with_reducible assumption) | assumption)) (by have h_ : (x5_1 : Int) < ((x0_1.length : Int) : Int) := of_decide_eq_true (by first | (with_reducible assumption) | assumption); first | exact h_ | (have e_ := (Kd.R_reads' HO_0.out).1; omega) | simpa using h_); obtain rfl := k48_openM hM13; have HP13 := Kd.R_seg HX13.out (x5_1 : Int) (of_decide_eq_true (by first | (with_reducible assumption) | assumption)) (by have h_ : (x5_1 : Int) < ((x0_1.length : Int) : Int) := of_decide_eq_true (by first | (with_reducible assumption) | assumption); first | exact h_ | (have e_ := (Kd.R_reads' HO_0.out).1; omega) | simpa using h_) (seg := [.int .i8 (IntKind.i8.wrap (wrap64 ((wrap64 (x1_1 + 1)) + 1)))]) (j := 2) hcl13 hcc13 (show 3 ≤ 3 from by decide) (x' := (⟨(rd_T48 y322 x5_1).f0, (rd_T48 y322 x5_1).f1, IntKind.i8.wrap (wrap64 ((wrap64 (x1_1 + 1)) + 1))⟩ : S48)) (k48_mkM _ _ _ (⟨(rd_T48 y322 x5_1).f0, (rd_T48 y322 x5_1).f1, IntKind.i8.wrap (wrap64 ((wrap64 (x1_1 + 1)) + 1))⟩ : S48) ) (fun _ hk => hk); have hx13_2 := hcc13 2 _ rfl; (try simp only [show (k48).sz = 3 from rfl, Nat.mul_one, Nat.add_zero] at hx13_2); have hf13_2 := hfr13 2; (try simp only [show (k48).sz = 3 from rfl, Nat.mul_one, Nat.add_zero] at hf13_2); clear hcl13 hcc13 hfr13 hM13) | ((with_reducible refine gate_store (t := 22) (p := 33) rfl ?_); refine store_event (t := 22) (p := 33) (v := ?vo_w14) (w1 := (w12.setCell ⟨go5, (x5_1 : Int).toNat * 3 + 2, none⟩ (.int .i8 (IntKind.i8.wrap (wrap64 ((wrap64 (x1_1 + 1)) + 1)))))) ?hg ?ho ?hn ?hr ?_; (case ho => rfl); (case hg => rfl); (case hn => rfl); (case hr => first | (go_simp; done) | (go_simp; rfl)); intro w14 hw; have hg : w12.grownBy w14 (some go5) := (by rw [hw]; exact HP13.2); have hp_ : Kd.R k48 48 w14 w0.heap.size (fun k_ => (P0_ k_ ∨ w.heap.size ≤ k_)) (.slice (some ⟨go5, 0, none⟩) x0_1.length co8) y323 := (by rw [hw, Ny323.out]; exact HP13.1); clear HP13; have n0_ := Aside0.mk (hp_); have n1_ := Aside0.mk ((by rw [hw]; exact below_set (HB.out) GB5.out : Below w0.heap.size w0 w14)); have n2_ := Aside0.mk (Kept.of_grown (S := (fun k_ => P0_ k_)) hg (by repeat (first | (with_reducible first | exact HK.out | apply Kept.alloc | apply Kept.drewN | apply Kept.drew) | exact HK.out)) (fun k_ e_ => (HO_0.out.1 k_ e_))); clear HO_0; clear HB; clear HK; have HO_0 := n0_; have HB := n1_; have HK := n2_; clear n0_ n1_ n2_; clear hg hw hp_))
          go_roundg k1
          case measure => have := HK1.out; omega
          case rel => exact ⟨(y323), (wrap64 ((wrap64 ((wrap64 (x1_1 + 1)) + 1)) + 1)), (wrap64 (x5_1 + 1)), (by first | rfl | (simp; done) | (simp [*]; done)), (by first | rfl | (simp; done) | (simp [*]; done)), H', ⟨by have := HK1.out; omega⟩, ⟨by (with_reducible repeat (first | apply Kd.R_alloc | apply Kd.R_drewN | apply Kd.R_drew)); exact HO_0.out⟩, ⟨by repeat (first | (with_reducible first | exact HK.out | apply Kept.alloc | apply Kept.drewN | apply Kept.drew) | exact HK.out)⟩, ⟨by repeat (first | (with_reducible first | exact HB.out | apply below_alloc | apply pw_below_drewN | apply below_drew1) | exact HB.out)⟩⟩
        · rw [if_neg c4] at H
          exact absurd H (by simp)
      · rw [if_neg c3] at H
        have c3b0 : decide (x5_1 < (x0_1.length : Int)) = false := decide_eq_false c3
        clear c3
        simp only [Option.some.injEq, Prod.mk.injEq] at H
        obtain ⟨rfl, rfl⟩ := H
        obtain ⟨Ao15, co15, eo15⟩ := Kd.R_slice HO_0.out
        subst eo15
        go_wp2
        go_ret
        exact ⟨by first | rfl | (simp [errW_none, errW_some] <;> rfl) | (simp [*, errW_none, errW_some] <;> rfl), by (with_reducible repeat (first | apply Kd.R_alloc | apply Kd.R_drewN | apply Kd.R_drew)); exact HO_0.out, by repeat (first | (with_reducible first | exact HB.out | apply below_alloc | apply pw_below_drewN | apply below_drew1) | exact HB.out), by repeat (first | (with_reducible first | exact HK.out | apply Kept.alloc | apply Kept.drewN | apply Kept.drew) | exact HK.out)⟩

end Go.Proofs.YtkldhleiipfaaaaDoor.Q
end
section
-- WRITTEN BY A PROGRAM OF THIS SESSION (xprint.py, which runs the kit's printer with changes). Lean checks it.
namespace Go.Proofs.YtkldhleiipfaaaaDoor.Q
open Go.RowKit Go.Proofs.YtkldhleiipfaaaaDoorW.PrintWords Go.Proofs.YtkldhleiipfaaaaDoorW.PrintLast Go.Proofs.YtkldhleiipfaaaaDoorW.PrintMore
set_option linter.unusedVariables false
set_option linter.unusedSimpArgs false
attribute [local go_sem] max2_int min2_int max_two min_two max_three min_three max_four min_four   -- for this text's walks alone
/-! ### laws_heldPairS: function 33 -/
def laws_heldPairS.l0 : Nat → List (S48) → Int → Int → Option (Int)
  | 0, _, _, _ => none
  | k + 1, x0, x1, x5 => if x5 < (x0.length : Int) then (if 0 ≤ x5 then (if ((rd_T48 x0 x5).f0) = ((x1) % 256) then (if ((rd_T48 x0 x5).f1) = ((wrap64 (x1 + 1)) % 256) then (if ((rd_T48 x0 x5).f2) = (IntKind.i8.wrap (wrap64 ((wrap64 (x1 + 1)) + 1))) then (laws_heldPairS.l0 k x0 (wrap64 ((wrap64 ((wrap64 (x1 + 1)) + 1)) + 1)) (wrap64 (x5 + 1))) else (some (-1))) else (some (-1))) else (some (-1))) else (none)) else (some x1)
def laws_heldPairS.f (k : Nat) (l0 : List (S48)) (a1 : Int) : Option (Int) := laws_heldPairS.l0 k l0 a1 0
theorem laws_heldPairS.mono_l : ∀ k, (∀ y0 y1 y2, LeO (laws_heldPairS.l0 k y0 y1 y2) (laws_heldPairS.l0 (k + 1) y0 y1 y2))
  | 0 => fun _ _ _ r h => by simp [laws_heldPairS.l0] at h
  | k + 1 => by
    have ih0 := laws_heldPairS.mono_l k
    · intro y0 y1 y2
      unfold laws_heldPairS.l0
      repeat' first
      | (with_reducible exact ih0 _ _ _)
      | (with_reducible exact LeO.refl _)
      | (with_reducible exact LeO.none _)
      | (with_reducible refine LeO.ite ?_ ?_)
      | (with_reducible refine LeO.bind ?_ (fun _ => ?_))
      | exact ih0 _ _ _
      | exact LeO.none _
      | refine LeO.ite ?_ ?_
      | refine LeO.bind ?_ (fun _ => ?_)
theorem laws_heldPairS.mono : ∀ a0 a1 k, LeO (laws_heldPairS.f k a0 a1) (laws_heldPairS.f (k + 1) a0 a1) := by
  intro a0 a1 k
  have ih0 := laws_heldPairS.mono_l k
  unfold laws_heldPairS.f
  repeat' first
      | (with_reducible exact ih0 _ _ _)
      | (with_reducible exact LeO.refl _)
      | (with_reducible exact LeO.none _)
      | (with_reducible refine LeO.ite ?_ ?_)
      | (with_reducible refine LeO.bind ?_ (fun _ => ?_))
      | exact ih0 _ _ _
      | exact LeO.none _
      | refine LeO.ite ?_ ?_
      | refine LeO.bind ?_ (fun _ => ?_)
set_option maxHeartbeats 8000000 in
set_option maxRecDepth 100000 in
theorem laws_heldPairS.calls (k : Nat) (A0 : Option Addr) (c0 : Nat) (l0 : List (S48)) (a1 : Int) (r : Int) (w : World) (hr0 : Kd.C k48 w A0 l0.length l0) (hc0 : l0.length ≤ c0) (h : laws_heldPairS.f k l0 a1 = some r) :
    Calls Tryd.prog 33 #[.slice A0 l0.length c0, .int .i64 a1] w fun e w' => e = .returned (.int .i64 r) ∧ Drawn0 w w' := by
  have HR0 := Aside0.mk hr0
  have HC0 := Aside0.mk hc0
  clear hr0 hc0
  have H : (laws_heldPairS.l0 k l0 a1 0) = some r := h
  clear h
  have H' := Aside0.mk H
  clear H
  go_enter Tryd.func33, Tryd.ntmps33
  go_wp2
  go_loopg [1, 5] k (fun kq v1 v5 w' => ∃ (x1_1 : Int) (x5_1 : Int), v1 = .int .i64 x1_1 ∧ v5 = .int .i64 x5_1 ∧ Aside0 (laws_heldPairS.l0 kq l0 x1_1 x5_1 = some r) ∧ Aside0 (kq ≤ k) ∧ Drawn0 w w')
  case atStart => exact ⟨(a1), (0), (by first | rfl | (simp; done) | (simp [*]; done)), (by first | rfl | (simp; done) | (simp [*]; done)), H', ⟨Nat.le_refl _⟩, by repeat (first | exact Drawn0.refl _ | apply Drawn0.step)⟩
  case round =>
    clear H'
    try clear p2
    obtain ⟨x1_1, x5_1, rfl, rfl, HA, HK1, ⟨m1, rfl⟩⟩ := hrel
    cases gk with
    | zero => exact absurd HA.out (by simp [laws_heldPairS.l0])
    | succ k1 =>
      have H := HA.out
      clear HA
      simp only [laws_heldPairS.l0] at H
      by_cases c3 : x5_1 < (l0.length : Int)
      · rw [if_pos c3] at H
        have c3b0 : decide (x5_1 < (l0.length : Int)) = true := decide_eq_true c3
        clear c3
        by_cases c4 : 0 ≤ x5_1
        · rw [if_pos c4] at H
          have c4b0 : decide (0 ≤ x5_1) = true := decide_eq_true c4
          clear c4
          by_cases c5 : ((rd_T48 l0 x5_1).f0) = ((x1_1) % 256)
          · rw [if_pos c5] at H
            have c5b0 : (((rd_T48 l0 x5_1).f0) == ((x1_1) % 256)) = true := beq_iff_eq.mpr c5
            have c5b1 : (((rd_T48 l0 x5_1).f0) != ((x1_1) % 256)) = false := bne_eq_false_iff_eq.mpr c5
            clear c5
            by_cases c6 : ((rd_T48 l0 x5_1).f1) = ((wrap64 (x1_1 + 1)) % 256)
            · rw [if_pos c6] at H
              have c6b0 : (((rd_T48 l0 x5_1).f1) == ((wrap64 (x1_1 + 1)) % 256)) = true := beq_iff_eq.mpr c6
              have c6b1 : (((rd_T48 l0 x5_1).f1) != ((wrap64 (x1_1 + 1)) % 256)) = false := bne_eq_false_iff_eq.mpr c6
              clear c6
              by_cases c7 : ((rd_T48 l0 x5_1).f2) = (IntKind.i8.wrap (wrap64 ((wrap64 (x1_1 + 1)) + 1)))
              · rw [if_pos c7] at H
                have c7b0 : (((rd_T48 l0 x5_1).f2) == (IntKind.i8.wrap (wrap64 ((wrap64 (x1_1 + 1)) + 1)))) = true := beq_iff_eq.mpr c7
                have c7b1 : (((rd_T48 l0 x5_1).f2) != (IntKind.i8.wrap (wrap64 ((wrap64 (x1_1 + 1)) + 1)))) = false := bne_eq_false_iff_eq.mpr c7
                clear c7
                have H' := Aside0.mk H
                clear H
                have p327 : 0 ≤ (x5_1 : Int) := of_decide_eq_true (by first | (with_reducible assumption) | assumption)
                have q327 : x5_1 < (l0.length : Int) := of_decide_eq_true (by first | (with_reducible assumption) | assumption)
                obtain ⟨ad327, e327, hx327_0, hx327_1, hx327_2⟩ := at_T48 HR0.out x5_1 p327 q327
                cases e327
                replace p327 := eq_true p327
                replace q327 := eq_true q327
                have p328 : 0 ≤ (x5_1 : Int) := of_decide_eq_true (by first | (with_reducible assumption) | assumption)
                have q328 : x5_1 < (l0.length : Int) := of_decide_eq_true (by first | (with_reducible assumption) | assumption)
                obtain ⟨ad328, e328, hx328_0, hx328_1, hx328_2⟩ := at_T48 HR0.out x5_1 p328 q328
                obtain rfl : ad327 = ad328 := (by injection e328)
                replace p328 := eq_true p328
                replace q328 := eq_true q328
                have p329 : 0 ≤ (x5_1 : Int) := of_decide_eq_true (by first | (with_reducible assumption) | assumption)
                have q329 : x5_1 < (l0.length : Int) := of_decide_eq_true (by first | (with_reducible assumption) | assumption)
                obtain ⟨ad329, e329, hx329_0, hx329_1, hx329_2⟩ := at_T48 HR0.out x5_1 p329 q329
                obtain rfl : ad327 = ad329 := (by injection e329)
                replace p329 := eq_true p329
                replace q329 := eq_true q329
                go_wp2
                go_roundg k1
                case measure => have := HK1.out; omega
                case rel => exact ⟨(wrap64 ((wrap64 ((wrap64 (x1_1 + 1)) + 1)) + 1)), (wrap64 (x5_1 + 1)), (by first | rfl | (simp; done) | (simp [*]; done)), (by first | rfl | (simp; done) | (simp [*]; done)), H', ⟨by have := HK1.out; omega⟩, by repeat (first | exact Drawn0.refl _ | apply Drawn0.step)⟩
              · rw [if_neg c7] at H
                have c7b0 : (((rd_T48 l0 x5_1).f2) == (IntKind.i8.wrap (wrap64 ((wrap64 (x1_1 + 1)) + 1)))) = false := beq_eq_false_iff_ne.mpr c7
                have c7b1 : (((rd_T48 l0 x5_1).f2) != (IntKind.i8.wrap (wrap64 ((wrap64 (x1_1 + 1)) + 1)))) = true := bne_iff_ne.mpr c7
                obtain rfl := Option.some.inj H
                have p327 : 0 ≤ (x5_1 : Int) := of_decide_eq_true (by first | (with_reducible assumption) | assumption)
                have q327 : x5_1 < (l0.length : Int) := of_decide_eq_true (by first | (with_reducible assumption) | assumption)
                obtain ⟨ad327, e327, hx327_0, hx327_1, hx327_2⟩ := at_T48 HR0.out x5_1 p327 q327
                cases e327
                replace p327 := eq_true p327
                replace q327 := eq_true q327
                have p328 : 0 ≤ (x5_1 : Int) := of_decide_eq_true (by first | (with_reducible assumption) | assumption)
                have q328 : x5_1 < (l0.length : Int) := of_decide_eq_true (by first | (with_reducible assumption) | assumption)
                obtain ⟨ad328, e328, hx328_0, hx328_1, hx328_2⟩ := at_T48 HR0.out x5_1 p328 q328
                obtain rfl : ad327 = ad328 := (by injection e328)
                replace p328 := eq_true p328
                replace q328 := eq_true q328
                have p329 : 0 ≤ (x5_1 : Int) := of_decide_eq_true (by first | (with_reducible assumption) | assumption)
                have q329 : x5_1 < (l0.length : Int) := of_decide_eq_true (by first | (with_reducible assumption) | assumption)
                obtain ⟨ad329, e329, hx329_0, hx329_1, hx329_2⟩ := at_T48 HR0.out x5_1 p329 q329
                obtain rfl : ad327 = ad329 := (by injection e329)
                replace p329 := eq_true p329
                replace q329 := eq_true q329
                go_wp2
                go_ret
                exact ⟨by first | rfl | (simp; done) | (simp [*]; done), by repeat (first | exact Drawn0.refl _ | apply Drawn0.step)⟩
            · rw [if_neg c6] at H
              have c6b0 : (((rd_T48 l0 x5_1).f1) == ((wrap64 (x1_1 + 1)) % 256)) = false := beq_eq_false_iff_ne.mpr c6
              have c6b1 : (((rd_T48 l0 x5_1).f1) != ((wrap64 (x1_1 + 1)) % 256)) = true := bne_iff_ne.mpr c6
              obtain rfl := Option.some.inj H
              have p327 : 0 ≤ (x5_1 : Int) := of_decide_eq_true (by first | (with_reducible assumption) | assumption)
              have q327 : x5_1 < (l0.length : Int) := of_decide_eq_true (by first | (with_reducible assumption) | assumption)
              obtain ⟨ad327, e327, hx327_0, hx327_1, hx327_2⟩ := at_T48 HR0.out x5_1 p327 q327
              cases e327
              replace p327 := eq_true p327
              replace q327 := eq_true q327
              have p328 : 0 ≤ (x5_1 : Int) := of_decide_eq_true (by first | (with_reducible assumption) | assumption)
              have q328 : x5_1 < (l0.length : Int) := of_decide_eq_true (by first | (with_reducible assumption) | assumption)
              obtain ⟨ad328, e328, hx328_0, hx328_1, hx328_2⟩ := at_T48 HR0.out x5_1 p328 q328
              obtain rfl : ad327 = ad328 := (by injection e328)
              replace p328 := eq_true p328
              replace q328 := eq_true q328
              go_wp2
              go_ret
              exact ⟨by first | rfl | (simp; done) | (simp [*]; done), by repeat (first | exact Drawn0.refl _ | apply Drawn0.step)⟩
          · rw [if_neg c5] at H
            have c5b0 : (((rd_T48 l0 x5_1).f0) == ((x1_1) % 256)) = false := beq_eq_false_iff_ne.mpr c5
            have c5b1 : (((rd_T48 l0 x5_1).f0) != ((x1_1) % 256)) = true := bne_iff_ne.mpr c5
            obtain rfl := Option.some.inj H
            have p327 : 0 ≤ (x5_1 : Int) := of_decide_eq_true (by first | (with_reducible assumption) | assumption)
            have q327 : x5_1 < (l0.length : Int) := of_decide_eq_true (by first | (with_reducible assumption) | assumption)
            obtain ⟨ad327, e327, hx327_0, hx327_1, hx327_2⟩ := at_T48 HR0.out x5_1 p327 q327
            cases e327
            replace p327 := eq_true p327
            replace q327 := eq_true q327
            go_wp2
            go_ret
            exact ⟨by first | rfl | (simp; done) | (simp [*]; done), by repeat (first | exact Drawn0.refl _ | apply Drawn0.step)⟩
        · rw [if_neg c4] at H
          exact absurd H (by simp)
      · rw [if_neg c3] at H
        have c3b0 : decide (x5_1 < (l0.length : Int)) = false := decide_eq_false c3
        clear c3
        obtain rfl := Option.some.inj H
        go_wp2
        go_ret
        exact ⟨by first | rfl | (simp; done) | (simp [*]; done), by repeat (first | exact Drawn0.refl _ | apply Drawn0.step)⟩

end Go.Proofs.YtkldhleiipfaaaaDoor.Q
end
section
/- The laws' marks on rows of pairs and on faces, by hand; what a law keeps beside what it marks. -/
namespace Go.Proofs.YtkldhleiipfaaaaDoor.Q
open Go.RowKit Go.Proofs.YtkldhleiipfaaaaDoorW.PrintWords Go.Proofs.YtkldhleiipfaaaaDoorW.PrintLast Go.Proofs.YtkldhleiipfaaaaDoorW.PrintMore
open Go.Proofs.YtkldhleiipfaaaaDoor.Pure
set_option linter.unusedVariables false
set_option linter.unusedSimpArgs false

def markP (j : Nat) : S48 := ⟨((3 * j + 1 : Nat) : Int) % 256, ((3 * j + 2 : Nat) : Int) % 256, IntKind.i8.wrap ((3 * j + 3 : Nat) : Int)⟩
def marksP (n : Nat) : List S48 := (List.range n).map markP
theorem marksP_len (n : Nat) : (marksP n).length = n := by simp [marksP]
theorem marksP_step (xs : List S48) (i : Nat) (h : i < xs.length) : (marksP i ++ xs.drop i).set i (markP i) = marksP (i + 1) ++ xs.drop (i + 1) := by
  rw [List.set_append_right _ _ (by rw [marksP_len]; exact Nat.le_refl _), marksP_len, Nat.sub_self, List.drop_eq_getElem_cons h, List.set_cons_zero]
  simp [marksP, List.range_succ]
theorem laws_markPairS.val (l : List S48) (hl : l.length ≤ 1048576) (k : Nat) (hk : l.length < k) : laws_markPairS.f k l 1 = some (((3 * l.length + 1 : Nat) : Int), marksP l.length) := by
  unfold laws_markPairS.f
  have := scan_inv (n := l.length) (M := 0) (l := fun k i (x : Int × List S48) => laws_markPairS.l0 k x.2 x.1 i) (at_ := fun i => (((3 * i + 1 : Nat) : Int), marksP i ++ l.drop i)) (r := (((3 * l.length + 1 : Nat) : Int), marksP l.length)) (fun k i hi _ => ?_) (fun k _ => ?_) k (by omega)
  · simpa [marksP] using this
  · have hlen : (marksP i ++ l.drop i).length = l.length := by rw [List.length_append, marksP_len, List.length_drop]; omega
    simp only [laws_markPairS.l0]
    have w1 : wrap64 (((3 * i + 1 : Nat) : Int) + 1) = ((3 * i + 2 : Nat) : Int) := by rw [wrap_id (by omega) (by omega)]; omega
    have w2 : wrap64 (((3 * i + 2 : Nat) : Int) + 1) = ((3 * i + 3 : Nat) : Int) := by rw [wrap_id (by omega) (by omega)]; omega
    have w3 : wrap64 (((3 * i + 3 : Nat) : Int) + 1) = ((3 * (i + 1) + 1 : Nat) : Int) := by rw [wrap_id (by omega) (by omega)]; omega
    have hs : ∀ (x : List S48) (z : S48), x.length = l.length → rd_T48 (x.set i z) (i : Int) = z := fun x z hx => by
      rw [rd46_get _ _ (by rw [List.length_set]; omega), List.getElem_set_self]
    rw [hlen, if_pos (by omega), if_pos (by omega), w1, w2, w3, wrap_succ hi (by omega)]
    simp only [Option.bind_some, Int.toNat_natCast, hs, List.length_set, hlen, List.set_set]
    have := marksP_step l i hi
    rw [← this]
    rfl
  · have hlen : (marksP l.length ++ l.drop l.length).length = l.length := by rw [List.length_append, marksP_len, List.length_drop]; omega
    simp only [laws_markPairS.l0]
    rw [hlen, if_neg (by omega)]
    simp
theorem laws_heldPairS.val (n : Nat) (hl : n ≤ 1048576) (k : Nat) (hk : n < k) : laws_heldPairS.f k (marksP n) 1 = some ((3 * n + 1 : Nat) : Int) := by
  unfold laws_heldPairS.f
  have := scan_inv (n := n) (M := 0) (l := fun k i (x : Int) => laws_heldPairS.l0 k (marksP n) x i) (at_ := fun i => ((3 * i + 1 : Nat) : Int)) (r := ((3 * n + 1 : Nat) : Int)) (fun k i hi _ => ?_) (fun k _ => ?_) k (by omega)
  · simpa using this
  · simp only [laws_heldPairS.l0]
    have w1 : wrap64 (((3 * i + 1 : Nat) : Int) + 1) = ((3 * i + 2 : Nat) : Int) := by rw [wrap_id (by omega) (by omega)]; omega
    have w2 : wrap64 (((3 * i + 2 : Nat) : Int) + 1) = ((3 * i + 3 : Nat) : Int) := by rw [wrap_id (by omega) (by omega)]; omega
    have w3 : wrap64 (((3 * i + 3 : Nat) : Int) + 1) = ((3 * (i + 1) + 1 : Nat) : Int) := by rw [wrap_id (by omega) (by omega)]; omega
    have hg : rd_T48 (marksP n) (i : Int) = markP i := by
      rw [rd46_get _ _ (by rw [marksP_len]; exact hi)]
      simp [marksP]
    rw [marksP_len, if_pos (by omega), if_pos (by omega), hg, w1, w2, w3, wrap_succ hi (by omega)]
    simp [markP]
  · simp only [laws_heldPairS.l0]
    rw [marksP_len, if_neg (by omega)]

set_option maxHeartbeats 4000000 in
theorem markFaceC (ws : List Int) (hx : ws.length = 26) (sp gp : Int) (P0 : Nat → Prop) (A : Option Addr) (n c : Nat) (l : List S48) (w0 w : World) (hB : Below w0.heap.size w0 w) (ho : Kd.R k48 48 w w0.heap.size P0 (.slice A n c) l) (hl : l.length ≤ 1048576) :
    Calls Tryd.prog 12 #[.agg (FV ws sp gp (.slice A n c)), .int .i64 1] w fun e w' => e = .returned (.int .i64 ((3 * l.length + 1 : Nat) : Int)) ∧ Kd.R k48 48 w' w0.heap.size P0 (.slice A n c) (marksP l.length) ∧ Below w0.heap.size w0 w' ∧ Kept w w' P0 := by
  have H1 := Lib.hid (heap_alloc_new w (.cells (FV ws sp gp (.slice A n c)) 31))
  have HB := Lib.hid (below_alloc hB (.cells (FV ws sp gp (.slice A n c)) 31))
  have HO := Lib.hid (Kd.R_alloc ho (.cells (FV ws sp gp (.slice A n c)) 31))
  have HM := Lib.hid (laws_markPairS.val l hl (l.length + 1) (by omega))
  have HW := Lib.hid (ho.1)
  have c28 := (blk_cell H1.out 28).trans (FV_28 ws hx _ _ _)
  obtain ⟨r, hr⟩ : ∃ r : Int, r = ((3 * l.length + 1 : Nat) : Int) := ⟨_, rfl⟩
  rw [← hr] at HM ⊢
  clear hB ho hl hx hr
  go_enter Tryd.func12, Tryd.ntmps12
  go_wp2_with (first
    | (go_at_call 32
       with_reducible refine (laws_markPairS.calls (l.length + 1) P0 (.slice A n c) l 1 r (marksP l.length) w0 _ HB.out HO.out HM.out).mono ?_
       rintro e w1 ⟨rfl, hR, hb, hk⟩
       have HR := Lib.hid hR
       have HB1 := Lib.hid hb
       have HK := Lib.hid hk
       clear hR hb hk))
  go_ret
  refine ⟨rfl, Kd.R_flat (fun h => h) HR.out (fun k hk _ => HW.out k hk), HB1.out, ?_⟩
  have hk := HK.out
  refine ⟨Nat.le_trans (by simp) hk.1, fun i hi hs => ?_⟩
  exact (hk.2 i (by simp; omega) hs).trans (heap_alloc_old _ _ hi)

set_option maxHeartbeats 4000000 in
theorem heldFaceC (ws : List Int) (hx : ws.length = 26) (sp gp : Int) (A : Option Addr) (m n c : Nat) (w : World) (hr : Kd.C k48 w A n (marksP n)) (hc : n ≤ c) (hn : n ≤ 1048576) :
    Calls Tryd.prog 13 #[.agg (FV ws sp gp (.slice A n c)), .int .i64 1] w fun e w' => e = .returned (.int .i64 ((3 * n + 1 : Nat) : Int)) ∧ Below w.heap.size w w' := by
  have H1 := Lib.hid (heap_alloc_new w (.cells (FV ws sp gp (.slice A n c)) 31))
  have HB := Lib.hid (below_alloc (Below.refl w.heap.size w) (.cells (FV ws sp gp (.slice A n c)) 31))
  have HM := Lib.hid (laws_heldPairS.val n hn (n + 1) (by omega))
  have HL := Lib.hid (marksP_len n)
  have HR := Lib.hid (Kd.C_below hr HB.out)
  have HC := Lib.hid hc
  have c28 := (blk_cell H1.out 28).trans (FV_28 ws hx _ _ _)
  obtain ⟨r, hr0⟩ : ∃ r : Int, r = ((3 * n + 1 : Nat) : Int) := ⟨_, rfl⟩
  rw [← hr0] at HM ⊢
  have hneg : ¬ r < 0 := by omega
  have HCall := Lib.hid (show Calls Tryd.prog 33 #[.slice A n c, .int .i64 1] (w.alloc (.cells (FV ws sp gp (.slice A n c)) 31)) fun e w' => e = .returned (.int .i64 r) ∧ Drawn0 (w.alloc (.cells (FV ws sp gp (.slice A n c)) 31)) w' by
    have := laws_heldPairS.calls (n + 1) A c (marksP n) 1 r (w.alloc (.cells (FV ws sp gp (.slice A n c)) 31)) (by rw [HL.out]; exact HR.out) (by rw [HL.out]; exact hc) HM.out
    rw [HL.out] at this
    exact this)
  clear hr hc hn hx hr0
  go_enter Tryd.func13, Tryd.ntmps13
  go_wp2_with (first
    | (go_at_call 33
       with_reducible refine HCall.out.mono ?_
       rintro e w7 ⟨rfl, ⟨nd, rfl⟩⟩))
  go_ret
  exact ⟨rfl, pw_below_drewN HB.out _⟩

/-- What a law on faces keeps: the argument's block, three faces in blocks of their own, the three rows in three stretches of memory. -/
structure Inv (a f6 f8 f9 : Array Value) (ta U : TypeId) (b0 I2 I3 I4 I5 I6 I7 base : Nat) (Vw Vx Vg : Value) (lw lx lg : List S48) (W : World) : Prop where
  ord : b0 < I2 ∧ I2 ≤ I3 ∧ I3 < I4 ∧ I4 ≤ I5 ∧ I5 < I6 ∧ I6 ≤ I7
  k0 : W.heap[b0]? = some (.cells a ta (0, 0))
  k6 : W.heap[I3]? = some (.cells f6 U (0, 0))
  k8 : W.heap[I5]? = some (.cells f8 U (0, 0))
  k9 : W.heap[I7]? = some (.cells f9 U (0, 0))
  rw : Kd.R k48 48 W base (fun k => I2 ≤ k ∧ k < I3) Vw lw
  rx : Kd.R k48 48 W base (fun k => I4 ≤ k ∧ k < I5) Vx lx
  rg : Kd.R k48 48 W base (fun k => I6 ≤ k ∧ k < I7) Vg lg
section
variable {a f6 f8 f9 : Array Value} {ta U : TypeId} {b0 I2 I3 I4 I5 I6 I7 base : Nat} {Vw Vx Vg : Value} {lw lx lg : List S48} {W W' : World}
theorem Inv.below (h : Inv a f6 f8 f9 ta U b0 I2 I3 I4 I5 I6 I7 base Vw Vx Vg lw lx lg W) (hb : Below W.heap.size W W') : Inv a f6 f8 f9 ta U b0 I2 I3 I4 I5 I6 I7 base Vw Vx Vg lw lx lg W' :=
  ⟨h.ord, (hb.block _ (blk_lt h.k0)).trans h.k0, (hb.block _ (blk_lt h.k6)).trans h.k6, (hb.block _ (blk_lt h.k8)).trans h.k8, (hb.block _ (blk_lt h.k9)).trans h.k9, Kd.R_below h.rw hb, Kd.R_below h.rx hb, Kd.R_below h.rg hb⟩
theorem Inv.markX (h : Inv a f6 f8 f9 ta U b0 I2 I3 I4 I5 I6 I7 base Vw Vx Vg lw lx lg W) {lx' : List S48} (hk : Kept W W' (fun k => I4 ≤ k ∧ k < I5)) (hx : Kd.R k48 48 W' base (fun k => I4 ≤ k ∧ k < I5) Vx lx') : Inv a f6 f8 f9 ta U b0 I2 I3 I4 I5 I6 I7 base Vw Vx Vg lw lx' lg W' := by
  obtain ⟨o1, o2, o3, o4, o5, o6⟩ := h.ord
  exact ⟨h.ord, (hk.2 _ (blk_lt h.k0) (by omega)).trans h.k0, (hk.2 _ (blk_lt h.k6) (by omega)).trans h.k6, (hk.2 _ (blk_lt h.k8) (by omega)).trans h.k8, (hk.2 _ (blk_lt h.k9) (by omega)).trans h.k9,
    Kd.R_step h.rw (fun k ho hlt => hk.2 k hlt (by omega)), hx, Kd.R_step h.rg (fun k ho hlt => hk.2 k hlt (by omega))⟩
theorem Inv.markG (h : Inv a f6 f8 f9 ta U b0 I2 I3 I4 I5 I6 I7 base Vw Vx Vg lw lx lg W) {lg' : List S48} (hk : Kept W W' (fun k => I6 ≤ k ∧ k < I7)) (hg : Kd.R k48 48 W' base (fun k => I6 ≤ k ∧ k < I7) Vg lg') : Inv a f6 f8 f9 ta U b0 I2 I3 I4 I5 I6 I7 base Vw Vx Vg lw lx lg' W' := by
  obtain ⟨o1, o2, o3, o4, o5, o6⟩ := h.ord
  exact ⟨h.ord, (hk.2 _ (blk_lt h.k0) (by omega)).trans h.k0, (hk.2 _ (blk_lt h.k6) (by omega)).trans h.k6, (hk.2 _ (blk_lt h.k8) (by omega)).trans h.k8, (hk.2 _ (blk_lt h.k9) (by omega)).trans h.k9,
    Kd.R_step h.rw (fun k ho hlt => hk.2 k hlt (by omega)), Kd.R_step h.rx (fun k ho hlt => hk.2 k hlt (by omega)), hg⟩
end
end Go.Proofs.YtkldhleiipfaaaaDoor.Q
end
