/- impl.CountRight: the search that calls itself, the walk; by hand. -/
import Derived.Test.YtnacfljfalkonaaQhandCountK
namespace Go.Proofs.Ytnacfljfalkonaa.Q
open Go.RowKit Go.Proofs.YtnacfljfalkonaaW.PrintWords Go.Proofs.YtnacfljfalkonaaW.PrintLast Go.Proofs.YtnacfljfalkonaaW.PrintMore
open Go.Proofs.Ytnacfljfalkonaa.Pure Go.Proofs.Ytnacfljfalkonaa.Bytes
set_option linter.unusedVariables false
set_option linter.unusedSimpArgs false

set_option maxHeartbeats 8000000 in
set_option maxRecDepth 100000 in
theorem findC {L : List S46} (hL : OkL L) (m : List MP) (Ap : Option Addr) (cp : Nat) (An : Option Addr) (cn gB gK gF gM : Nat) (S : Int → Int → Int → Int) (hS : ∀ a b c, S a b c = cnt L (nx m L) b.toNat a c.toNat) (w0 : World) (hP : Kd.C k52 w0 Ap L.length (L.map cvP)) (hN : Kd.C (Kd.slice 3 (Kd.int .i64)) w0 An L.length (nextP m L)) :
    ∀ (d : Nat) (n l : Int) (k : Nat) (W : World), n.toNat < d → 1 ≤ n → n ≤ 1000 → 0 ≤ l → l ≤ 16 → k < L.length → CB Ap L.length cp An L.length cn gB gK gF gM S w0 W →
    Calls Try.prog 27 #[.int .i64 n, .int .i64 l, .int .i64 (k : Int), .pointer (some ⟨gB, 0, none⟩), .pointer (some ⟨gK, 0, none⟩), .pointer (some ⟨gF, 0, none⟩)] W fun e w' => e = .returned (.int .i64 (Fv L (nx m L) n l k)) ∧ CB Ap L.length cp An L.length cn gB gK gF gM S w0 w' := by
  have eg27 : ∀ args w, (callFunc 27 args).run Try.prog w = .ok (.enter 27 args) w := enters_of Try.func27 (by kernel_rfl) rfl
  have HL := Lib.hid hL
  have HS := Lib.hid hS
  have HP := Lib.hid hP
  have HN := Lib.hid hN
  have hl16 : (L.length : Int) ≤ 16 := by have := hL.len; omega
  clear hL hS hP hN
  intro d
  induction d with
  | zero =>
    intro n l k W h
    exact absurd h (Nat.not_lt_zero _)
  | succ d ih =>
  intro n l k W hd hn1 hn2 hl1 hl2 hk hI
  have IH := Lib.hid ih
  have HI := Lib.hid hI
  have eB0 : W.cell? ⟨gB, 0, none⟩ = some (.slice Ap L.length cp) := (blk_cell hI.kB 0).trans rfl
  obtain ⟨adp, ep, px0, px1⟩ := at_T52 (Kd.C_below HP.out hI.b) (k : Int) (by omega) (by omega)
  rw [cv_rd L k hk, Int.toNat_natCast] at px0 px1
  have hsz := HL.out.siz k hk
  have hvl := HL.out.val k hk
  obtain ⟨tx, htx⟩ : ∃ t, t = (rd_T46 L (k : Int)).f0 := ⟨_, rfl⟩
  obtain ⟨v, hv⟩ : ∃ v, v = (rd_T46 L (k : Int)).f1 := ⟨_, rfl⟩
  replace px0 : W.cell? (adp.add (k * 2)) = some (.string tx) := by rw [htx]; exact px0
  replace px1 : W.cell? ⟨(adp.add (k * 2)).block, (adp.add (k * 2)).off + 1, none⟩ = some (.int .i64 v) := by rw [hv]; exact px1
  rw [← htx] at hsz
  rw [← hv] at hvl
  have HZL := Lib.hid (show zL L k = tx.size by rw [htx]; rfl)
  have HVL := Lib.hid (show vL L k = v by rw [hv]; rfl)
  subst ep
  obtain ⟨nd, hnd⟩ : ∃ x, x = n - v := ⟨_, rfl⟩
  obtain ⟨ld, hld⟩ : ∃ x, x = l - (tx.size : Int) := ⟨_, rfl⟩
  have HND := Lib.hid (show nd ≤ n - 1 ∧ nd ≤ 999 ∧ -70000 ≤ nd ∧ ld ≤ 16 ∧ -2 ≤ ld ∧ nd.toNat < d ∨ nd < 1 by by_cases h : nd < 1; exact Or.inr h; exact Or.inl ⟨by omega, by omega, by omega, by omega, by omega, by omega⟩)
  have HW := Lib.hid (And.intro (show wrap64 (n - v) = nd by rw [hnd]; exact wrap_id (by omega) (by omega)) (show wrap64 (l - (tx.size : Int)) = ld by rw [hld]; exact wrap_id (by omega) (by omega)))
  have HFV := Lib.hid (And.intro (show n - vL L k = nd by rw [hnd, HVL.out]) (show l - (zL L k : Int) = ld by rw [hld, HZL.out]))
  have hk3 : (k : Int) < (L.length : Int) := by omega
  have HK := Lib.hid hk
  obtain ⟨ans, hans⟩ : ∃ a, a = Fv L (nx m L) n l k := ⟨_, rfl⟩
  rw [← hans]
  have HANS := Lib.hid hans
  clear hans
  have HLD := Lib.hid (show ld ≤ 16 by omega)
  clear ih hI hd hn1 hn2 hl1 hl2 hk htx hv hsz hvl hnd hld
  go_enter Try.func27, Try.ntmps27
  go_upto_region 2 with (fail)
  have hba := below_alloc (Below.refl W.heap.size W) (.cells #[.string tx, .int .i64 v] 52)
  have hblk := heap_alloc_new W (.cells #[.string tx, .int .i64 v] 52)
  obtain ⟨w1, hw1⟩ : ∃ w1, w1 = W.alloc (.cells #[.string tx, .int .i64 v] 52) := ⟨_, rfl⟩
  rw [← hw1] at hba hblk ⊢
  have I1 := Lib.hid ((HI.out.step hba).step (below_drew1 (Below.refl w1.heap.size w1)))
  have p0 := bcell (below_drew1 (Below.refl w1.heap.size w1)) ((blk_cell hblk 0).trans rfl : w1.cell? ⟨W.heap.size, 0, none⟩ = some (.string tx))
  have p1 := bcell (below_drew1 (Below.refl w1.heap.size w1)) ((blk_cell hblk 1).trans rfl : w1.cell? ⟨W.heap.size, 1, none⟩ = some (.int .i64 v))
  have hcv := fun X => Lib.run_convert_string_bytes (P := Try.prog) X 9 70 5 tx (u := .string) Try.underlying9 Try.underlying70 Try.underlying5
  clear hba hblk hw1 px0 px1 eB0 HI
  refine start_ (n := 12) (S := fun w' => Below (w1).drew.heap.size (w1).drew w') (ds := []) #[false, false, false, false, false, false, false, false, false, false, false, false] (by kernel_rfl) rfl rfl (Below.refl _ _) (fun hHeld => ?_)
  generalize w1.drew = wq at I1 p0 p1 hHeld ⊢
  have IQ := I1
  clear I1
  refine pure_ (i := 0) (N := some 21) (v := ?_) (a' := ?_) #[true, false, false, false, false, false, false, false, false, false, false, false] rfl rfl (by kernel_rfl) (fun _ _ _ h => h) (Or.inl ⟨by rfl, ?_⟩) ?_ ?_
  rotate_left
  · intro w'
    go_simp
    with_reducible rfl
  rotate_left
  · simp only [Act.put, List.setIfInBounds_toArray, List.set_cons_zero, List.set_cons_succ, i64_w, i32_w]
    rfl
  refine pure_ (i := 1) (N := some 22) (v := ?_) (a' := ?_) #[true, true, false, false, false, false, false, false, false, false, false, false] rfl rfl (by kernel_rfl) (fun _ _ _ h => h) (Or.inl ⟨by rfl, ?_⟩) ?_ ?_
  rotate_left
  · intro w'
    go_simp
    with_reducible rfl
  rotate_left
  · simp only [Act.put, List.setIfInBounds_toArray, List.set_cons_zero, List.set_cons_succ, i64_w, i32_w]
    rfl
  refine take_ (i := 2) (N := some 23) (v := ?_) (a' := ?_) #[true, true, true, false, false, false, false, false, false, false, false, false] rfl rfl (by kernel_rfl) (fun _ _ _ h => h) (Or.inl ⟨by rfl, ?_⟩) hHeld ?_ ?_
  rotate_left
  · rintro w' hS
    have q_p0 := bcell hS p0
    have q_p1 := bcell hS p1
    go_simp
    with_reducible rfl
  rotate_left
  · simp only [Act.put, List.setIfInBounds_toArray, List.set_cons_zero, List.set_cons_succ, i64_w, i32_w]
    rfl
  refine pure_ (i := 3) (N := some 24) (v := ?_) (a' := ?_) #[true, true, true, true, false, false, false, false, false, false, false, false] rfl rfl (by kernel_rfl) (fun _ _ _ h => h) (Or.inl ⟨by rfl, ?_⟩) ?_ ?_
  rotate_left
  · intro w'
    go_simp
    with_reducible rfl
  rotate_left
  · simp only [Act.put, List.setIfInBounds_toArray, List.set_cons_zero, List.set_cons_succ, i64_w, i32_w]
    rfl
  refine pure_ (i := 4) (N := some 25) (v := ?_) (a' := ?_) #[true, true, true, true, true, false, false, false, false, false, false, false] rfl rfl (by kernel_rfl) (fun _ _ _ h => h) (Or.inl ⟨by rfl, ?_⟩) ?_ ?_
  rotate_left
  · intro w'
    go_simp
    with_reducible rfl
  rotate_left
  · simp only [Act.put, List.setIfInBounds_toArray, List.set_cons_zero, List.set_cons_succ, i64_w, i32_w]
    rfl
  refine pure_ (i := 5) (N := some 26) (v := ?_) (a' := ?_) #[true, true, true, true, true, true, false, false, false, false, false, false] rfl rfl (by kernel_rfl) (fun _ _ _ h => h) (Or.inl ⟨by rfl, ?_⟩) ?_ ?_
  rotate_left
  · intro w'
    go_simp
    with_reducible rfl
  rotate_left
  · simp only [Act.put, List.setIfInBounds_toArray, List.set_cons_zero, List.set_cons_succ, i64_w, i32_w]
    rfl
  refine take_ (i := 6) (N := some 27) (v := ?_) (a' := ?_) #[true, true, true, true, true, true, true, false, false, false, false, false] rfl rfl (by kernel_rfl) (fun _ _ _ h => h) (Or.inl ⟨by rfl, ?_⟩) hHeld ?_ ?_
  rotate_left
  · rintro w' hS
    have q_p0 := bcell hS p0
    have q_p1 := bcell hS p1
    go_simp
    with_reducible rfl
  rotate_left
  · simp only [Act.put, List.setIfInBounds_toArray, List.set_cons_zero, List.set_cons_succ, i64_w, i32_w]
    rfl
  refine one_ (i := 7) (N := some 28) #[true, true, true, true, true, true, true, true, false, false, false, false] rfl rfl (by kernel_rfl) (by decide) (fun K hK => ?_)
  refine value_ (w1 := ?_) (v := ?_) (by rfl) rfl ?_ ?_
  rotate_left 2
  · go_simp
    constructor
    · rfl
    · rfl
  refine hK.out _ _ (below_step hHeld (below_bytes _ _ _)) (fun hHeld => ?_)
  clear hK K
  refine norm_ (a' := ?_) ?_ ?_
  rotate_left
  · show Act.put _ (some 28) _ = _
    simp only [Act.put, List.setIfInBounds_toArray, List.set_cons_zero, List.set_cons_succ, i64_w, i32_w]
    rfl
  refine one_ (i := 8) (N := some 29) #[true, true, true, true, true, true, true, true, true, false, false, false] rfl rfl (by kernel_rfl) (by decide) (fun K hK => ?_)
  refine goes_ Try.func28 (by kernel_rfl) rfl #[.slice (some ⟨wq.heap.size, 0, none⟩) tx.size (grownCap wq tx.size 0 5)] (by rfl) rfl rfl (by (try simp only [List.map_toArray, List.map_cons, List.map_nil]); first | done | rfl | (simp only [List.length_drop, List.length_take]; rfl)) ?_
  with_reducible refine (sizeB _ _ _ _).mono ?_
  rintro e wz ⟨rfl, hb⟩
  refine ⟨_, rfl, ?_⟩
  have hS_ := below_step hHeld hb
  clear hb hHeld
  refine hK.out _ _ hS_ (fun hHeld => ?_)
  clear hK K hS_
  refine norm_ (a' := ?_) ?_ ?_
  rotate_left
  · show Act.put _ (some 29) _ = _
    simp only [Act.put, List.setIfInBounds_toArray, List.set_cons_zero, List.set_cons_succ, i64_w, i32_w]
    rfl
  refine pure_ (i := 9) (N := some 30) (v := ?_) (a' := ?_) #[true, true, true, true, true, true, true, true, true, true, false, false] rfl rfl (by kernel_rfl) (fun _ _ _ h => h) (Or.inl ⟨by rfl, ?_⟩) ?_ ?_
  rotate_left
  · intro w'
    go_simp
    with_reducible rfl
  rotate_left
  · simp only [Act.put, List.setIfInBounds_toArray, List.set_cons_zero, List.set_cons_succ, i64_w, i32_w]
    rfl
  refine pure_ (i := 10) (N := some 0) (v := ?_) (a' := ?_) #[true, true, true, true, true, true, true, true, true, true, true, false] rfl rfl (by kernel_rfl) (fun _ _ _ h => h) (Or.inl ⟨by rfl, ?_⟩) ?_ ?_
  rotate_left
  · intro w'
    go_simp
    with_reducible rfl
  rotate_left
  · simp only [Act.put, List.setIfInBounds_toArray, List.set_cons_zero, List.set_cons_succ, i64_w, i32_w]
    rfl
  refine pure_ (i := 11) (N := some 1) (v := ?_) (a' := ?_) #[true, true, true, true, true, true, true, true, true, true, true, true] rfl rfl (by kernel_rfl) (fun _ _ _ h => h) (Or.inl ⟨by rfl, ?_⟩) ?_ ?_
  rotate_left
  · intro w'
    go_simp
    with_reducible rfl
  rotate_left
  · simp only [Act.put, List.setIfInBounds_toArray, List.set_cons_zero, List.set_cons_succ, i64_w, i32_w]
    rfl
  refine done_ (by kernel_rfl) ?_
  have IW := Lib.hid (IQ.out.step hHeld)
  clear hHeld IQ hcv p0 p1
  rw [HW.out.1, HW.out.2]
  by_cases h1 : nd < 0
  · have h2 : decide (nd < 0) = true := decide_eq_true h1
    have hf := Fv_less (L := L) (g := nx m L) (k := k) (n := n) (l := l) (by rw [HFV.out.1, HFV.out.2]; exact Or.inl h1)
    have HF := Lib.hid hf
    clear hf
    go_wp2
    go_ret
    exact ⟨ret_i (HF.out.symm.trans HANS.out.symm), IW.out⟩
  have h2 : decide (nd < 0) = false := decide_eq_false h1
  by_cases h3 : ld < 0
  · have h4 : decide (ld < 0) = true := decide_eq_true h3
    have hf := Fv_less (L := L) (g := nx m L) (k := k) (n := n) (l := l) (by rw [HFV.out.1, HFV.out.2]; exact Or.inr h3)
    have HF := Lib.hid hf
    clear hf
    go_wp2
    go_ret
    exact ⟨ret_i (HF.out.symm.trans HANS.out.symm), IW.out⟩
  have h4 : decide (ld < 0) = false := decide_eq_false h3
  have HNN := Lib.hid (show ¬ (n - vL L k < 0 ∨ l - (zL L k : Int) < 0) by rw [HFV.out.1, HFV.out.2]; omega)
  by_cases h5 : nd = 0
  · have h6 : (nd == 0) = true := by rw [h5]; rfl
    have hf := Fv_one HL.out (g := nx m L) HNN.out (by rw [HFV.out.1]; exact h5)
    have HF := Lib.hid hf
    clear hf h5
    go_wp2
    go_ret
    exact ⟨ret_i (HF.out.symm.trans HANS.out.symm), IW.out⟩
  have h6 : (nd == 0) = false := beq_eq_false_iff_ne.2 h5
  have hf := Fv_more (g := nx m L) HNN.out
  rw [HFV.out.1, HFV.out.2] at hf
  have HF := Lib.hid hf
  have HSV := Lib.hid (show S nd ld (k : Int) = cnt L (nx m L) ld.toNat nd k from HS.out nd ld (k : Int))
  have HN1 := Lib.hid (show 1 ≤ nd by omega)
  have HL0 := Lib.hid (show 0 ≤ ld by omega)
  have eK : wz.cell? ⟨gK, 0, none⟩ = some (.map (some gM)) := (blk_cell IW.out.kK 0).trans rfl
  have eB1 : wz.cell? ⟨gB, 1, none⟩ = some (.slice An L.length cn) := (blk_cell IW.out.kB 1).trans rfl
  obtain ⟨es, cl, hM, hF⟩ := IW.out.kM
  have hlook := look67 S nd ld (k : Int) hM hF
  unfold keyV at hlook
  clear hM hF hf
  rcases hlook with hlk | hlk
  rotate_left
  · rw [HSV.out] at hlk
    go_wp2
    go_ret
    exact ⟨ret_i (HF.out.symm.trans HANS.out.symm), IW.out⟩
  obtain ⟨adn, en, A2, c2, n00, hCo⟩ := at_row HN.out k (by rw [nextP_len]; exact HK.out)
  rw [nextP_row, own_fol m L k HK.out] at n00 hCo
  rw [List.length_map] at n00 hCo
  subst en
  obtain ⟨fl, hfl⟩ : ∃ fl, fl = fol m L k := ⟨_, rfl⟩
  rw [← hfl] at n00 hCo
  have n0 := bcell IW.out.b n00
  have HLT := Lib.hid (show ∀ q ∈ fl, q < L.length by rw [hfl]; exact fol_lt m L k)
  have hfl16 : (fl.length : Int) ≤ 16 := by have := fol_len m L k; rw [← hfl] at this; omega
  have HSUM := Lib.hid (show sumF L (nx m L) nd ld fl 0 = S nd ld (k : Int) by rw [HSV.out, hfl]; exact sumF_all HL.out (nx m L) nd ld HN1.out HL0.out k)
  have HCO := Lib.hid hCo
  clear hfl hCo n00
  go_wp2
  go_loopw [13, 58] (fun v13 i X => ∃ j : Nat, j ≤ fl.length ∧ i = .int .i64 j ∧ v13 = .int .i64 (sumF L (nx m L) nd ld (fl.take j) 0) ∧ RowKit.Hid (CB (some adp) L.length cp (some adn) L.length cn gB gK gF gM S w0 X)) (fun _ i _ => fl.length - (intOf i).toNat)
  case atStart => exact ⟨0, Nat.zero_le _, rfl, rfl, IW⟩
  case round =>
    clear IW n0 eK eB1 hlk
    obtain ⟨j, hj, rfl, rfl, HI⟩ := hrel
    by_cases hj2 : j < fl.length
    · have hj3 : (j : Int) < (fl.length : Int) := by omega
      obtain ⟨ado, eo, o0⟩ := Kd.at_int (Kd.C_below HCO.out HI.out.b) (j : Int) (by omega) hj3
      rw [Pure.rd_get _ j (by rw [List.length_map]; exact hj2), List.getElem_map, Int.toNat_natCast] at o0
      have HST := Lib.hid (sumF_take (L := L) (g := nx m L) (n := nd) (l := ld) fl j hj2)
      have hql := HLT.out fl[j] (List.getElem_mem hj2)
      obtain ⟨q, hq⟩ : ∃ q, q = fl[j] := ⟨_, rfl⟩
      rw [← hq] at o0 hql HST
      have HQL := Lib.hid hql
      have eF : wr.cell? ⟨gF, 0, none⟩ = some (.func (.func 27) #[] #[.pointer (some ⟨gB, 0, none⟩), .pointer (some ⟨gK, 0, none⟩), .pointer (some ⟨gF, 0, none⟩)]) := (blk_cell HI.out.kF 0).trans rfl
      have HCALL := Lib.hid (IH.out nd ld q wr (by have := HND.out; omega) HN1.out (by have := HND.out; omega) HL0.out HLD.out HQL.out HI.out)
      subst eo
      clear hq hql HI
      go_wp2_with (first
        | (go_at_fn 27
           with_reducible refine HCALL.out.mono ?_
           rintro e w2 ⟨rfl, hI2⟩
           have I2 := Lib.hid hI2
           clear hI2 eF o0 HCALL))
      go_roundw
      case measure => simp only [intOf]; omega
      case rel => exact ⟨j + 1, by omega, by go_num, by rw [HST.out], I2⟩
    · have hj3 : ¬ (j : Int) < (fl.length : Int) := by omega
      have HE := Lib.hid (show sumF L (nx m L) nd ld (fl.take j) 0 = S nd ld (k : Int) by rw [List.take_of_length_le (by omega)]; exact HSUM.out)
      rw [HE.out]
      have eK : wr.cell? ⟨gK, 0, none⟩ = some (.map (some gM)) := (blk_cell HI.out.kK 0).trans rfl
      obtain ⟨es, cl, hM, hF⟩ := HI.out.kM
      obtain ⟨es2, cl2, hrun, hF2⟩ := put67 S nd ld (k : Int) hM hF
      unfold keyV at hrun
      have HF2 := Lib.hid hF2
      clear hM hF hF2 hj2 hj
      go_wp2
      go_ret
      exact ⟨ret_i (HSV.out.trans (HF.out.symm.trans HANS.out.symm)), HI.out.put HF2.out⟩
end Go.Proofs.Ytnacfljfalkonaa.Q
