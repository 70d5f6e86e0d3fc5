/- impl.readings and impl.Readings by hand: all readings of a worn number. -/
import Derived.Test.YtdhhnkhgmoblhaaDoorQhandDelete
import Derived.Test.YtdhhnkhgmoblhaaDoorQlibSort
import Derived.Test.YtdhhnkhgmoblhaaDoorQlib
import Derived.Test.YtdhhnkhgmoblhaaDoorQRead
import Derived.Test.YtdhhnkhgmoblhaaDoorQhandValid
import Derived.Test.YtdhhnkhgmoblhaaDoorQMinus
import Derived.Test.YtdhhnkhgmoblhaaDoorQimplunless
import Derived.BigRegion
import Derived.Deep.RegionHeld3
namespace Go.Proofs.YtdhhnkhgmoblhaaDoor.Q
open Go.RowKit Go.Proofs.YtdhhnkhgmoblhaaDoorW.PrintWords Go.Proofs.YtdhhnkhgmoblhaaDoorW.PrintLast Go.Proofs.YtdhhnkhgmoblhaaDoorW.PrintMore
open Go.Proofs.YtdhhnkhgmoblhaaDoor.Pure
set_option linter.unusedVariables false
set_option linter.unusedSimpArgs false

theorem impl_readings1.calls (g0 : Nat) (A0 : Option Addr) (c0 : Nat) (s : List SG) (A1 : Option Addr) (c1 : Nat) (m : List MP) (x : ByteArray) (W : World) (hbk : W.heap[g0]? = some (.cells #[.slice A0 s.length c0, .slice A1 m.length c1] 30 (0, 0))) (hr0 : Kd.C k56 W A0 s.length s) (hc0 : s.length ≤ c0) (hr1 : Kd.C k59 W A1 m.length m) (hc1 : m.length ≤ c1) (hb : bigR s m ⟨#[]⟩) (h16 : x.size ≤ 16) :
    Calls Tryd.prog 73 #[.string x, .pointer (some ⟨g0, 0, none⟩)] W fun e w' => e = .returned (.bool (!rightB s m x)) ∧ Below W.heap.size W w' := by
  have HC := Lib.hid (impl_System_isRight.calls 2097160 A0 c0 s A1 c1 m x (rightB s m x) W hr0 hc0 hr1 hc1 (impl_System_isRight.val s m x hb.1 hb.2.1 hb.2.2.1 h16 2097160 (by omega)))
  have hd0 := (blk_cell hbk 0).trans rfl
  have hd1 := (blk_cell hbk 1).trans rfl
  clear hbk hr0 hr1
  go_enter Tryd.func73, Tryd.ntmps73
  go_wp2_with (go_at_call 74; with_reducible refine HC.out.mono ?_; rintro e w1 ⟨rfl, hb⟩)
  go_ret
  exact ⟨rfl, hb⟩

set_option maxRecDepth 20000 in
set_option maxHeartbeats 8000000 in
theorem impl_readings.callsT (A0 : Option Addr) (c0 : Nat) (s : List SG) (A1 : Option Addr) (c1 : Nat) (m : List MP) (worn : ByteArray) (w : World) (hG : Glob w) (hr0 : Kd.C k56 w A0 s.length s) (hc0 : s.length ≤ c0) (hr1 : Kd.C k59 w A1 m.length m) (hc1 : m.length ≤ c1) (hf : bigR s m worn) :
    Calls Tryd.prog 35 #[.agg #[.slice A0 s.length c0, .slice A1 m.length c1], .string worn] w fun e w' => ∃ v0_ : Value, e = .returned (.tuple #[v0_, .int .i64 (readI s m worn).2]) ∧ Kd.R Kd.string 9 w' w.heap.size (fun _ => True) v0_ (readI s m worn).1 ∧ Below w.heap.size w w' := by
  obtain ⟨hls, hlm, hfb, hws⟩ := hf
  have HFB := Lib.hid (show fitB s from hfb)
  have HG := Lib.hid hG
  have HB1 := Lib.hid (below_alloc (Below.refl w.heap.size w) (.cells #[.slice A0 s.length c0, .slice A1 m.length c1] 30))
  have HBK := Lib.hid (heap_alloc_new w (.cells #[.slice A0 s.length c0, .slice A1 m.length c1] 30))
  have HV := Lib.hid (impl_ValidSystem.calls A0 c0 s A1 c1 m (okB s m) (w.alloc (.cells #[.slice A0 s.length c0, .slice A1 m.length c1] 30)) (Kd.C_below hr0 HB1.out) hc0 (Kd.C_below hr1 HB1.out) hc1 (by unfold impl_ValidSystem.f; exact if_pos ⟨hls, hlm, hfb⟩))
  have HR0 := Lib.hid hr0
  have HR1 := Lib.hid hr1
  obtain ⟨res, hres⟩ : ∃ res, res = readI s m worn := ⟨_, rfl⟩
  rw [← hres]
  have HRES := Lib.hid hres
  clear hG hr0 hr1 hres hfb
  cases hok : okB s m with
  | false =>
    rw [hok] at HV
    have e : res = ([], 1) := by rw [HRES.out]; unfold readI; rw [hok, if_neg (by simp)]
    subst e
    clear hok
    go_enter Tryd.func35, Tryd.ntmps35
    go_wp2_with (first | (go_at_call 29; with_reducible refine HV.out.mono ?_; rintro e w1 ⟨rfl, hb⟩; have HB := Lib.hid (below_step HB1.out hb); clear hb))
    go_ret2
    exact ⟨_, rfl, Kd.R_nil _ _ _ _ _, HB.out⟩
  | true =>
  rw [hok] at HV
  have HT := Lib.hid hok
  clear hok
  obtain ⟨gn, hgn⟩ : ∃ gn, gn = Lib.countByte worn.data.toList 63 := ⟨_, rfl⟩
  obtain ⟨st, hst⟩ : ∃ st, st = stripQ worn := ⟨_, rfl⟩
  have hst2 : st.size ≤ worn.size := by rw [hst]; exact stripQ_size worn
  obtain ⟨nb, hnb⟩ : ∃ nb, nb = numB s st := ⟨_, rfl⟩
  have HNF := Lib.hid (show impl_System_isNumber.f 2097156 s m st = some nb from by rw [hnb]; exact impl_System_isNumber.val s m st hls HFB.out (by omega) 2097156 (by omega))
  have HCT := Lib.hid (fun W => (show Calls Tryd.prog 69 #[.string worn, .string ⟨#[63]⟩] W fun e w' => e = .returned (.int .i64 (gn : Int)) ∧ w' = W from by rw [hgn]; exact Tryd.strings_Count_one worn 63 W))
  have HRA := Lib.hid (fun W (hG : Glob W) => (show Calls Tryd.prog 71 #[.string worn, .string ⟨#[63]⟩, .string ⟨#[]⟩] W fun e w' => e = .returned (.string st) ∧ Below W.heap.size W w' from by
    have := strings_ReplaceAll.calls worn ⟨#[63]⟩ ⟨#[]⟩ st W hG (by rw [hst]; exact stripQ_f worn hws)
    exact this))
  have HRS0 := Lib.hid (show res = if nb = true ∧ worn.size ≤ 16 then (if gn ≤ 4 then (outI s m worn, if (outI s m worn).length ≤ 500 then 0 else 3) else ([], 3)) else ([], 5) from by
    rw [HRES.out]; unfold readI; rw [if_pos HT.out, ← hgn, ← hst, ← hnb])
  have HGN := Lib.hid hgn
  clear hgn hst hnb hst2
  go_enter Tryd.func35, Tryd.ntmps35
  go_wp2_with (first | (go_at_call 29; with_reducible refine HV.out.mono ?_; rintro e wv ⟨rfl, hb⟩; have HB := Lib.hid (below_step HB1.out hb); have BK := Lib.hid (blk_below HBK.out hb); have SV := Lib.hid (show w.heap.size < wv.heap.size from by have := hb.size; simp at this; omega); clear hb) | (go_at_call 69; with_reducible refine (HCT.out _).mono ?_; rintro e w2 ⟨rfl, hw2⟩; have hw3 := hw2.symm; clear hw2; subst hw3))
  have hd0 : wv.drew.cell? ⟨w.heap.size, 0, none⟩ = some (.slice A0 s.length c0) := (blk_cell BK.out 0).trans rfl
  have hd1 : wv.drew.cell? ⟨w.heap.size, 1, none⟩ = some (.slice A1 m.length c1) := (blk_cell BK.out 1).trans rfl
  have HB2 := Lib.hid (show Below w.heap.size w wv.drew from below_drew1 HB.out)
  have BK2 := Lib.hid (show wv.drew.heap[w.heap.size]? = some (.cells #[.slice A0 s.length c0, .slice A1 m.length c1] 30) from BK.out)
  have SV2 := Lib.hid (show w.heap.size < wv.drew.heap.size from SV.out)
  clear HB BK SV
  cases nb with
  | false =>
    have e : res = ([], 5) := by rw [HRS0.out, if_neg (by simp)]
    subst e
    refine start_ (n := 10) (S := fun w' => Below (wv).drew.heap.size (wv).drew w') (ds := []) #[false, false, false, false, false, false, false, false, false, false] (by kernel_rfl) rfl rfl (Below.refl _ _) (fun hHeld => ?_)
    generalize wv.drew = wq at hd0 hd1 HB2 BK2 SV2 hHeld ⊢
    refine take_ (i := 0) (N := some 19) (v := ?_) (a' := ?_) #[true, false, false, false, false, false, false, false, false, false] rfl rfl (by kernel_rfl) (fun _ _ _ h => h) (Or.inl ⟨by rfl, ?_⟩) hHeld ?_ ?_
    rotate_left
    · rintro w' hS
      have q_hd0 := bcell hS hd0
      have q_hd1 := bcell hS hd1
      go_simp
      with_reducible rfl
    rotate_left
    · simp only [Act.put, List.setIfInBounds_toArray, List.set_cons_zero, List.set_cons_succ, i64_w, i32_w]
      rfl
    refine pure_ (i := 1) (N := some 20) (v := ?_) (a' := ?_) #[true, true, false, false, false, false, false, false, false, false] rfl rfl (by kernel_rfl) (fun _ _ _ h => h) (Or.inl ⟨by rfl, ?_⟩) ?_ ?_
    rotate_left
    · intro w'
      go_simp
      with_reducible rfl
    rotate_left
    · simp only [Act.put, List.setIfInBounds_toArray, List.set_cons_zero, List.set_cons_succ, i64_w, i32_w]
      rfl
    refine one_ (i := 2) (N := some 21) #[true, true, true, false, false, false, false, false, false, false] rfl rfl (by kernel_rfl) (by decide) (fun K hK => ?_)
    refine goes_ Tryd.func71 (by kernel_rfl) rfl #[.string worn, .string ⟨#[63]⟩, .string ⟨#[]⟩] (by rfl) rfl rfl (by (try simp only [List.map_toArray, List.map_cons, List.map_nil]); first | done | rfl | (simp only [List.length_drop, List.length_take]; rfl)) ?_
    with_reducible refine (HRA.out _ (HG.out.step (below_step HB2.out hHeld))).mono ?_
    rintro e wz ⟨rfl, hb⟩
    refine ⟨_, rfl, ?_⟩
    have hS_ := below_step hHeld hb
    clear hb hHeld
    refine hK.out _ _ hS_ (fun hHeld => ?_)
    clear hK K hS_
    refine norm_ (a' := ?_) ?_ ?_
    rotate_left
    · show Act.put _ (some 21) _ = _
      simp only [Act.put, List.setIfInBounds_toArray, List.set_cons_zero, List.set_cons_succ, i64_w, i32_w]
      rfl
    refine one_ (i := 3) (N := some 22) #[true, true, true, true, false, false, false, false, false, false] rfl rfl (by kernel_rfl) (by decide) (fun K hK => ?_)
    refine goes_ Tryd.func70 (by kernel_rfl) rfl #[.agg #[.slice A0 s.length c0, .slice A1 m.length c1], .string st] (by rfl) rfl rfl (by (try simp only [List.map_toArray, List.map_cons, List.map_nil]); first | done | rfl | (simp only [List.length_drop, List.length_take]; rfl)) ?_
    with_reducible refine (impl_System_isNumber.calls 2097156 A0 c0 s A1 c1 m st false _ (Kd.C_below HR0.out (below_step HB2.out hHeld)) hc0 (Kd.C_below HR1.out (below_step HB2.out hHeld)) hc1 HNF.out).mono ?_
    rintro e wz ⟨rfl, hb⟩
    refine ⟨_, rfl, ?_⟩
    have hS_ := below_step hHeld hb
    clear hb hHeld
    refine hK.out _ _ hS_ (fun hHeld => ?_)
    clear hK K hS_
    refine norm_ (a' := ?_) ?_ ?_
    rotate_left
    · show Act.put _ (some 22) _ = _
      simp only [Act.put, List.setIfInBounds_toArray, List.set_cons_zero, List.set_cons_succ, i64_w, i32_w]
      rfl
    refine pure_ (i := 4) (N := some 23) (v := ?_) (a' := ?_) #[true, true, true, true, true, false, false, false, false, false] rfl rfl (by kernel_rfl) (fun _ _ _ h => h) (Or.inl ⟨by rfl, ?_⟩) ?_ ?_
    rotate_left
    · intro w'
      go_simp
      with_reducible rfl
    rotate_left
    · simp only [Act.put, List.setIfInBounds_toArray, List.set_cons_zero, List.set_cons_succ, i64_w, i32_w]
      rfl
    refine pure_ (i := 5) (N := some 24) (v := ?_) (a' := ?_) #[true, true, true, true, true, true, false, false, false, false] rfl rfl (by kernel_rfl) (fun _ _ _ h => h) (Or.inl ⟨by rfl, ?_⟩) ?_ ?_
    rotate_left
    · intro w'
      go_simp
      with_reducible rfl
    rotate_left
    · simp only [Act.put, List.setIfInBounds_toArray, List.set_cons_zero, List.set_cons_succ, i64_w, i32_w]
      rfl
    refine pure_ (i := 6) (N := some 25) (v := undef) (a' := ?_) #[true, true, true, true, true, true, true, false, false, false] rfl rfl (by kernel_rfl) (fun _ _ _ h => h) (Or.inr ⟨by rfl, rfl⟩) ?_ ?_
    rotate_left
    · simp only [Act.put, List.setIfInBounds_toArray, List.set_cons_zero, List.set_cons_succ, i64_w, i32_w]
      rfl
    refine pure_ (i := 7) (N := some 26) (v := undef) (a' := ?_) #[true, true, true, true, true, true, true, true, false, false] rfl rfl (by kernel_rfl) (fun _ _ _ h => h) (Or.inr ⟨by rfl, rfl⟩) ?_ ?_
    rotate_left
    · simp only [Act.put, List.setIfInBounds_toArray, List.set_cons_zero, List.set_cons_succ, i64_w, i32_w]
      rfl
    refine pure_ (i := 8) (N := some 27) (v := undef) (a' := ?_) #[true, true, true, true, true, true, true, true, true, false] rfl rfl (by kernel_rfl) (fun _ _ _ h => h) (Or.inr ⟨by rfl, rfl⟩) ?_ ?_
    rotate_left
    · simp only [Act.put, List.setIfInBounds_toArray, List.set_cons_zero, List.set_cons_succ, i64_w, i32_w]
      rfl
    refine pure_ (i := 9) (N := some 28) (v := ?_) (a' := ?_) #[true, true, true, true, true, true, true, true, true, true] rfl rfl (by kernel_rfl) (fun _ _ _ h => h) (Or.inl ⟨by rfl, ?_⟩) ?_ ?_
    rotate_left
    · intro w'
      go_simp
      with_reducible rfl
    rotate_left
    · simp only [Act.put, List.setIfInBounds_toArray, List.set_cons_zero, List.set_cons_succ, i64_w, i32_w]
      rfl
    refine done_ (by kernel_rfl) ?_
    go_wp2
    go_ret2
    exact ⟨_, rfl, Kd.R_nil _ _ _ _ _, below_step HB2.out hHeld⟩
  | true =>
    by_cases h16 : worn.size ≤ 16
    rotate_left
    · have e : res = ([], 5) := by rw [HRS0.out, if_neg (fun h => h16 h.2)]
      subst e
      have cc1 : decide ((16 : Int) < (worn.size : Int)) = true := decide_eq_true (by omega)
      refine start_ (n := 10) (S := fun w' => Below (wv).drew.heap.size (wv).drew w') (ds := []) #[false, false, false, false, false, false, false, false, false, false] (by kernel_rfl) rfl rfl (Below.refl _ _) (fun hHeld => ?_)
      generalize wv.drew = wq at hd0 hd1 HB2 BK2 SV2 hHeld ⊢
      refine take_ (i := 0) (N := some 19) (v := ?_) (a' := ?_) #[true, false, false, false, false, false, false, false, false, false] rfl rfl (by kernel_rfl) (fun _ _ _ h => h) (Or.inl ⟨by rfl, ?_⟩) hHeld ?_ ?_
      rotate_left
      · rintro w' hS
        have q_hd0 := bcell hS hd0
        have q_hd1 := bcell hS hd1
        go_simp
        with_reducible rfl
      rotate_left
      · simp only [Act.put, List.setIfInBounds_toArray, List.set_cons_zero, List.set_cons_succ, i64_w, i32_w]
        rfl
      refine pure_ (i := 1) (N := some 20) (v := ?_) (a' := ?_) #[true, true, false, false, false, false, false, false, false, false] rfl rfl (by kernel_rfl) (fun _ _ _ h => h) (Or.inl ⟨by rfl, ?_⟩) ?_ ?_
      rotate_left
      · intro w'
        go_simp
        with_reducible rfl
      rotate_left
      · simp only [Act.put, List.setIfInBounds_toArray, List.set_cons_zero, List.set_cons_succ, i64_w, i32_w]
        rfl
      refine one_ (i := 2) (N := some 21) #[true, true, true, false, false, false, false, false, false, false] rfl rfl (by kernel_rfl) (by decide) (fun K hK => ?_)
      refine goes_ Tryd.func71 (by kernel_rfl) rfl #[.string worn, .string ⟨#[63]⟩, .string ⟨#[]⟩] (by rfl) rfl rfl (by (try simp only [List.map_toArray, List.map_cons, List.map_nil]); first | done | rfl | (simp only [List.length_drop, List.length_take]; rfl)) ?_
      with_reducible refine (HRA.out _ (HG.out.step (below_step HB2.out hHeld))).mono ?_
      rintro e wz ⟨rfl, hb⟩
      refine ⟨_, rfl, ?_⟩
      have hS_ := below_step hHeld hb
      clear hb hHeld
      refine hK.out _ _ hS_ (fun hHeld => ?_)
      clear hK K hS_
      refine norm_ (a' := ?_) ?_ ?_
      rotate_left
      · show Act.put _ (some 21) _ = _
        simp only [Act.put, List.setIfInBounds_toArray, List.set_cons_zero, List.set_cons_succ, i64_w, i32_w]
        rfl
      refine one_ (i := 3) (N := some 22) #[true, true, true, true, false, false, false, false, false, false] rfl rfl (by kernel_rfl) (by decide) (fun K hK => ?_)
      refine goes_ Tryd.func70 (by kernel_rfl) rfl #[.agg #[.slice A0 s.length c0, .slice A1 m.length c1], .string st] (by rfl) rfl rfl (by (try simp only [List.map_toArray, List.map_cons, List.map_nil]); first | done | rfl | (simp only [List.length_drop, List.length_take]; rfl)) ?_
      with_reducible refine (impl_System_isNumber.calls 2097156 A0 c0 s A1 c1 m st true _ (Kd.C_below HR0.out (below_step HB2.out hHeld)) hc0 (Kd.C_below HR1.out (below_step HB2.out hHeld)) hc1 HNF.out).mono ?_
      rintro e wz ⟨rfl, hb⟩
      refine ⟨_, rfl, ?_⟩
      have hS_ := below_step hHeld hb
      clear hb hHeld
      refine hK.out _ _ hS_ (fun hHeld => ?_)
      clear hK K hS_
      refine norm_ (a' := ?_) ?_ ?_
      rotate_left
      · show Act.put _ (some 22) _ = _
        simp only [Act.put, List.setIfInBounds_toArray, List.set_cons_zero, List.set_cons_succ, i64_w, i32_w]
        rfl
      refine pure_ (i := 4) (N := some 23) (v := ?_) (a' := ?_) #[true, true, true, true, true, false, false, false, false, false] rfl rfl (by kernel_rfl) (fun _ _ _ h => h) (Or.inl ⟨by rfl, ?_⟩) ?_ ?_
      rotate_left
      · intro w'
        go_simp
        with_reducible rfl
      rotate_left
      · simp only [Act.put, List.setIfInBounds_toArray, List.set_cons_zero, List.set_cons_succ, i64_w, i32_w]
        rfl
      refine pure_ (i := 5) (N := some 24) (v := ?_) (a' := ?_) #[true, true, true, true, true, true, false, false, false, false] rfl rfl (by kernel_rfl) (fun _ _ _ h => h) (Or.inl ⟨by rfl, ?_⟩) ?_ ?_
      rotate_left
      · intro w'
        go_simp
        with_reducible rfl
      rotate_left
      · simp only [Act.put, List.setIfInBounds_toArray, List.set_cons_zero, List.set_cons_succ, i64_w, i32_w]
        rfl
      refine pure_ (i := 6) (N := some 25) (v := ?_) (a' := ?_) #[true, true, true, true, true, true, true, false, false, false] rfl rfl (by kernel_rfl) (fun _ _ _ h => h) (Or.inl ⟨by rfl, ?_⟩) ?_ ?_
      rotate_left
      · intro w'
        go_simp
        with_reducible rfl
      rotate_left
      · simp only [Act.put, List.setIfInBounds_toArray, List.set_cons_zero, List.set_cons_succ, i64_w, i32_w]
        rfl
      refine pure_ (i := 7) (N := some 26) (v := ?_) (a' := ?_) #[true, true, true, true, true, true, true, true, false, false] rfl rfl (by kernel_rfl) (fun _ _ _ h => h) (Or.inl ⟨by rfl, ?_⟩) ?_ ?_
      rotate_left
      · intro w'
        go_simp
        with_reducible rfl
      rotate_left
      · simp only [Act.put, List.setIfInBounds_toArray, List.set_cons_zero, List.set_cons_succ, i64_w, i32_w]
        rfl
      refine pure_ (i := 8) (N := some 27) (v := ?_) (a' := ?_) #[true, true, true, true, true, true, true, true, true, false] rfl rfl (by kernel_rfl) (fun _ _ _ h => h) (Or.inl ⟨by rfl, ?_⟩) ?_ ?_
      rotate_left
      · intro w'
        go_simp
        with_reducible rfl
      rotate_left
      · simp only [Act.put, List.setIfInBounds_toArray, List.set_cons_zero, List.set_cons_succ, i64_w, i32_w]
        rfl
      refine pure_ (i := 9) (N := some 28) (v := ?_) (a' := ?_) #[true, true, true, true, true, true, true, true, true, true] rfl rfl (by kernel_rfl) (fun _ _ _ h => h) (Or.inl ⟨by rfl, ?_⟩) ?_ ?_
      rotate_left
      · intro w'
        go_simp
        with_reducible rfl
      rotate_left
      · simp only [Act.put, List.setIfInBounds_toArray, List.set_cons_zero, List.set_cons_succ, i64_w, i32_w]
        rfl
      refine done_ (by kernel_rfl) ?_
      go_wp2
      go_ret2
      exact ⟨_, rfl, Kd.R_nil _ _ _ _ _, below_step HB2.out hHeld⟩
    have cc1 : decide ((16 : Int) < (worn.size : Int)) = false := decide_eq_false (by omega)
    by_cases h4 : gn ≤ 4
    rotate_left
    · have e : res = ([], 3) := by rw [HRS0.out, if_pos ⟨rfl, h16⟩, if_neg h4]
      subst e
      have cc2 : decide ((4 : Int) < (gn : Int)) = true := decide_eq_true (by omega)
      refine start_ (n := 10) (S := fun w' => Below (wv).drew.heap.size (wv).drew w') (ds := []) #[false, false, false, false, false, false, false, false, false, false] (by kernel_rfl) rfl rfl (Below.refl _ _) (fun hHeld => ?_)
      generalize wv.drew = wq at hd0 hd1 HB2 BK2 SV2 hHeld ⊢
      refine take_ (i := 0) (N := some 19) (v := ?_) (a' := ?_) #[true, false, false, false, false, false, false, false, false, false] rfl rfl (by kernel_rfl) (fun _ _ _ h => h) (Or.inl ⟨by rfl, ?_⟩) hHeld ?_ ?_
      rotate_left
      · rintro w' hS
        have q_hd0 := bcell hS hd0
        have q_hd1 := bcell hS hd1
        go_simp
        with_reducible rfl
      rotate_left
      · simp only [Act.put, List.setIfInBounds_toArray, List.set_cons_zero, List.set_cons_succ, i64_w, i32_w]
        rfl
      refine pure_ (i := 1) (N := some 20) (v := ?_) (a' := ?_) #[true, true, false, false, false, false, false, false, false, false] rfl rfl (by kernel_rfl) (fun _ _ _ h => h) (Or.inl ⟨by rfl, ?_⟩) ?_ ?_
      rotate_left
      · intro w'
        go_simp
        with_reducible rfl
      rotate_left
      · simp only [Act.put, List.setIfInBounds_toArray, List.set_cons_zero, List.set_cons_succ, i64_w, i32_w]
        rfl
      refine one_ (i := 2) (N := some 21) #[true, true, true, false, false, false, false, false, false, false] rfl rfl (by kernel_rfl) (by decide) (fun K hK => ?_)
      refine goes_ Tryd.func71 (by kernel_rfl) rfl #[.string worn, .string ⟨#[63]⟩, .string ⟨#[]⟩] (by rfl) rfl rfl (by (try simp only [List.map_toArray, List.map_cons, List.map_nil]); first | done | rfl | (simp only [List.length_drop, List.length_take]; rfl)) ?_
      with_reducible refine (HRA.out _ (HG.out.step (below_step HB2.out hHeld))).mono ?_
      rintro e wz ⟨rfl, hb⟩
      refine ⟨_, rfl, ?_⟩
      have hS_ := below_step hHeld hb
      clear hb hHeld
      refine hK.out _ _ hS_ (fun hHeld => ?_)
      clear hK K hS_
      refine norm_ (a' := ?_) ?_ ?_
      rotate_left
      · show Act.put _ (some 21) _ = _
        simp only [Act.put, List.setIfInBounds_toArray, List.set_cons_zero, List.set_cons_succ, i64_w, i32_w]
        rfl
      refine one_ (i := 3) (N := some 22) #[true, true, true, true, false, false, false, false, false, false] rfl rfl (by kernel_rfl) (by decide) (fun K hK => ?_)
      refine goes_ Tryd.func70 (by kernel_rfl) rfl #[.agg #[.slice A0 s.length c0, .slice A1 m.length c1], .string st] (by rfl) rfl rfl (by (try simp only [List.map_toArray, List.map_cons, List.map_nil]); first | done | rfl | (simp only [List.length_drop, List.length_take]; rfl)) ?_
      with_reducible refine (impl_System_isNumber.calls 2097156 A0 c0 s A1 c1 m st true _ (Kd.C_below HR0.out (below_step HB2.out hHeld)) hc0 (Kd.C_below HR1.out (below_step HB2.out hHeld)) hc1 HNF.out).mono ?_
      rintro e wz ⟨rfl, hb⟩
      refine ⟨_, rfl, ?_⟩
      have hS_ := below_step hHeld hb
      clear hb hHeld
      refine hK.out _ _ hS_ (fun hHeld => ?_)
      clear hK K hS_
      refine norm_ (a' := ?_) ?_ ?_
      rotate_left
      · show Act.put _ (some 22) _ = _
        simp only [Act.put, List.setIfInBounds_toArray, List.set_cons_zero, List.set_cons_succ, i64_w, i32_w]
        rfl
      refine pure_ (i := 4) (N := some 23) (v := ?_) (a' := ?_) #[true, true, true, true, true, false, false, false, false, false] rfl rfl (by kernel_rfl) (fun _ _ _ h => h) (Or.inl ⟨by rfl, ?_⟩) ?_ ?_
      rotate_left
      · intro w'
        go_simp
        with_reducible rfl
      rotate_left
      · simp only [Act.put, List.setIfInBounds_toArray, List.set_cons_zero, List.set_cons_succ, i64_w, i32_w]
        rfl
      refine pure_ (i := 5) (N := some 24) (v := ?_) (a' := ?_) #[true, true, true, true, true, true, false, false, false, false] rfl rfl (by kernel_rfl) (fun _ _ _ h => h) (Or.inl ⟨by rfl, ?_⟩) ?_ ?_
      rotate_left
      · intro w'
        go_simp
        with_reducible rfl
      rotate_left
      · simp only [Act.put, List.setIfInBounds_toArray, List.set_cons_zero, List.set_cons_succ, i64_w, i32_w]
        rfl
      refine pure_ (i := 6) (N := some 25) (v := ?_) (a' := ?_) #[true, true, true, true, true, true, true, false, false, false] rfl rfl (by kernel_rfl) (fun _ _ _ h => h) (Or.inl ⟨by rfl, ?_⟩) ?_ ?_
      rotate_left
      · intro w'
        go_simp
        with_reducible rfl
      rotate_left
      · simp only [Act.put, List.setIfInBounds_toArray, List.set_cons_zero, List.set_cons_succ, i64_w, i32_w]
        rfl
      refine pure_ (i := 7) (N := some 26) (v := ?_) (a' := ?_) #[true, true, true, true, true, true, true, true, false, false] rfl rfl (by kernel_rfl) (fun _ _ _ h => h) (Or.inl ⟨by rfl, ?_⟩) ?_ ?_
      rotate_left
      · intro w'
        go_simp
        with_reducible rfl
      rotate_left
      · simp only [Act.put, List.setIfInBounds_toArray, List.set_cons_zero, List.set_cons_succ, i64_w, i32_w]
        rfl
      refine pure_ (i := 8) (N := some 27) (v := ?_) (a' := ?_) #[true, true, true, true, true, true, true, true, true, false] rfl rfl (by kernel_rfl) (fun _ _ _ h => h) (Or.inl ⟨by rfl, ?_⟩) ?_ ?_
      rotate_left
      · intro w'
        go_simp
        with_reducible rfl
      rotate_left
      · simp only [Act.put, List.setIfInBounds_toArray, List.set_cons_zero, List.set_cons_succ, i64_w, i32_w]
        rfl
      refine pure_ (i := 9) (N := some 28) (v := ?_) (a' := ?_) #[true, true, true, true, true, true, true, true, true, true] rfl rfl (by kernel_rfl) (fun _ _ _ h => h) (Or.inl ⟨by rfl, ?_⟩) ?_ ?_
      rotate_left
      · intro w'
        go_simp
        with_reducible rfl
      rotate_left
      · simp only [Act.put, List.setIfInBounds_toArray, List.set_cons_zero, List.set_cons_succ, i64_w, i32_w]
        rfl
      refine done_ (by kernel_rfl) ?_
      go_wp2
      go_ret2
      exact ⟨_, rfl, Kd.R_nil _ _ _ _ _, below_step HB2.out hHeld⟩
    have cc2 : decide ((4 : Int) < (gn : Int)) = false := decide_eq_false (by omega)
    refine start_ (n := 10) (S := fun w' => Below (wv).drew.heap.size (wv).drew w') (ds := []) #[false, false, false, false, false, false, false, false, false, false] (by kernel_rfl) rfl rfl (Below.refl _ _) (fun hHeld => ?_)
    generalize wv.drew = wq at hd0 hd1 HB2 BK2 SV2 hHeld ⊢
    refine take_ (i := 0) (N := some 19) (v := ?_) (a' := ?_) #[true, false, false, false, false, false, false, false, false, false] rfl rfl (by kernel_rfl) (fun _ _ _ h => h) (Or.inl ⟨by rfl, ?_⟩) hHeld ?_ ?_
    rotate_left
    · rintro w' hS
      have q_hd0 := bcell hS hd0
      have q_hd1 := bcell hS hd1
      go_simp
      with_reducible rfl
    rotate_left
    · simp only [Act.put, List.setIfInBounds_toArray, List.set_cons_zero, List.set_cons_succ, i64_w, i32_w]
      rfl
    refine pure_ (i := 1) (N := some 20) (v := ?_) (a' := ?_) #[true, true, false, false, false, false, false, false, false, false] rfl rfl (by kernel_rfl) (fun _ _ _ h => h) (Or.inl ⟨by rfl, ?_⟩) ?_ ?_
    rotate_left
    · intro w'
      go_simp
      with_reducible rfl
    rotate_left
    · simp only [Act.put, List.setIfInBounds_toArray, List.set_cons_zero, List.set_cons_succ, i64_w, i32_w]
      rfl
    refine one_ (i := 2) (N := some 21) #[true, true, true, false, false, false, false, false, false, false] rfl rfl (by kernel_rfl) (by decide) (fun K hK => ?_)
    refine goes_ Tryd.func71 (by kernel_rfl) rfl #[.string worn, .string ⟨#[63]⟩, .string ⟨#[]⟩] (by rfl) rfl rfl (by (try simp only [List.map_toArray, List.map_cons, List.map_nil]); first | done | rfl | (simp only [List.length_drop, List.length_take]; rfl)) ?_
    with_reducible refine (HRA.out _ (HG.out.step (below_step HB2.out hHeld))).mono ?_
    rintro e wz ⟨rfl, hb⟩
    refine ⟨_, rfl, ?_⟩
    have hS_ := below_step hHeld hb
    clear hb hHeld
    refine hK.out _ _ hS_ (fun hHeld => ?_)
    clear hK K hS_
    refine norm_ (a' := ?_) ?_ ?_
    rotate_left
    · show Act.put _ (some 21) _ = _
      simp only [Act.put, List.setIfInBounds_toArray, List.set_cons_zero, List.set_cons_succ, i64_w, i32_w]
      rfl
    refine one_ (i := 3) (N := some 22) #[true, true, true, true, false, false, false, false, false, false] rfl rfl (by kernel_rfl) (by decide) (fun K hK => ?_)
    refine goes_ Tryd.func70 (by kernel_rfl) rfl #[.agg #[.slice A0 s.length c0, .slice A1 m.length c1], .string st] (by rfl) rfl rfl (by (try simp only [List.map_toArray, List.map_cons, List.map_nil]); first | done | rfl | (simp only [List.length_drop, List.length_take]; rfl)) ?_
    with_reducible refine (impl_System_isNumber.calls 2097156 A0 c0 s A1 c1 m st true _ (Kd.C_below HR0.out (below_step HB2.out hHeld)) hc0 (Kd.C_below HR1.out (below_step HB2.out hHeld)) hc1 HNF.out).mono ?_
    rintro e wz ⟨rfl, hb⟩
    refine ⟨_, rfl, ?_⟩
    have hS_ := below_step hHeld hb
    clear hb hHeld
    refine hK.out _ _ hS_ (fun hHeld => ?_)
    clear hK K hS_
    refine norm_ (a' := ?_) ?_ ?_
    rotate_left
    · show Act.put _ (some 22) _ = _
      simp only [Act.put, List.setIfInBounds_toArray, List.set_cons_zero, List.set_cons_succ, i64_w, i32_w]
      rfl
    refine pure_ (i := 4) (N := some 23) (v := ?_) (a' := ?_) #[true, true, true, true, true, false, false, false, false, false] rfl rfl (by kernel_rfl) (fun _ _ _ h => h) (Or.inl ⟨by rfl, ?_⟩) ?_ ?_
    rotate_left
    · intro w'
      go_simp
      with_reducible rfl
    rotate_left
    · simp only [Act.put, List.setIfInBounds_toArray, List.set_cons_zero, List.set_cons_succ, i64_w, i32_w]
      rfl
    refine pure_ (i := 5) (N := some 24) (v := ?_) (a' := ?_) #[true, true, true, true, true, true, false, false, false, false] rfl rfl (by kernel_rfl) (fun _ _ _ h => h) (Or.inl ⟨by rfl, ?_⟩) ?_ ?_
    rotate_left
    · intro w'
      go_simp
      with_reducible rfl
    rotate_left
    · simp only [Act.put, List.setIfInBounds_toArray, List.set_cons_zero, List.set_cons_succ, i64_w, i32_w]
      rfl
    refine pure_ (i := 6) (N := some 25) (v := ?_) (a' := ?_) #[true, true, true, true, true, true, true, false, false, false] rfl rfl (by kernel_rfl) (fun _ _ _ h => h) (Or.inl ⟨by rfl, ?_⟩) ?_ ?_
    rotate_left
    · intro w'
      go_simp
      with_reducible rfl
    rotate_left
    · simp only [Act.put, List.setIfInBounds_toArray, List.set_cons_zero, List.set_cons_succ, i64_w, i32_w]
      rfl
    refine pure_ (i := 7) (N := some 26) (v := ?_) (a' := ?_) #[true, true, true, true, true, true, true, true, false, false] rfl rfl (by kernel_rfl) (fun _ _ _ h => h) (Or.inl ⟨by rfl, ?_⟩) ?_ ?_
    rotate_left
    · intro w'
      go_simp
      with_reducible rfl
    rotate_left
    · simp only [Act.put, List.setIfInBounds_toArray, List.set_cons_zero, List.set_cons_succ, i64_w, i32_w]
      rfl
    refine pure_ (i := 8) (N := some 27) (v := ?_) (a' := ?_) #[true, true, true, true, true, true, true, true, true, false] rfl rfl (by kernel_rfl) (fun _ _ _ h => h) (Or.inl ⟨by rfl, ?_⟩) ?_ ?_
    rotate_left
    · intro w'
      go_simp
      with_reducible rfl
    rotate_left
    · simp only [Act.put, List.setIfInBounds_toArray, List.set_cons_zero, List.set_cons_succ, i64_w, i32_w]
      rfl
    refine pure_ (i := 9) (N := some 28) (v := ?_) (a' := ?_) #[true, true, true, true, true, true, true, true, true, true] rfl rfl (by kernel_rfl) (fun _ _ _ h => h) (Or.inl ⟨by rfl, ?_⟩) ?_ ?_
    rotate_left
    · intro w'
      go_simp
      with_reducible rfl
    rotate_left
    · simp only [Act.put, List.setIfInBounds_toArray, List.set_cons_zero, List.set_cons_succ, i64_w, i32_w]
      rfl
    refine done_ (by kernel_rfl) ?_
    obtain ⟨wb, hwb⟩ : ∃ wb, wb = wz := ⟨_, rfl⟩
    rw [← hwb] at hHeld ⊢
    clear hwb
    have HWB := Lib.hid (below_step HB2.out hHeld)
    have BKb := Lib.hid (blk_below BK2.out hHeld)
    have SVb := Lib.hid (Nat.lt_of_lt_of_le SV2.out hHeld.size)
    have HRS1 := Lib.hid (show res = (outI s m worn, if (outI s m worn).length ≤ 500 then 0 else 3) from by rw [HRS0.out, if_pos ⟨rfl, h16⟩, if_pos h4])
    have HGL := Lib.hid (show goneTo worn worn.size ≤ 4 from by rw [← count_gone, ← HGN.out]; exact h4)
    clear hHeld HB2 BK2 SV2 hd0 hd1
    have H16 := Lib.hid h16
    have hs8 : s.length ≤ 8 := okB_len HT.out
    go_wp2_with (first | ((with_reducible refine gate_dst (N := 31) rfl ?_); refine Kd.R_lit Kd.string (w0 := wb) wb.heap.size 9 ?hg (N := 31) ?hd (xs := ([⟨#[]⟩] : List ByteArray)) (inner := [.string ⟨#[]⟩]) (ok := fun _ => True) (okp := fun _ => True) ?hr ?hp (fun _ hk => hk) trivial (Below.refl _ _) (Nat.le_refl _) (by simp) ?_; (case hd => rfl); (case hg => rfl); (case hr => first | (go_simp; done) | (go_simp; rfl)); (case hp => exact (Reps.one (show Kd.M Kd.string _ _ _ (⟨#[]⟩ : ByteArray) [.string ⟨#[]⟩] from rfl) (Reps.none _ _))); intro v7 w7 ho hb hg_ hnew_; have HO7 := Lib.hid ho; have HW7 := Lib.hid hb; clear ho hb hg_ hnew_))
    clear cc1 cc2
    go_loopw [7, 34] (fun v i wr => ∃ (j : Nat) (n7 : Nat), j ≤ worn.size ∧ i = .int .i64 j ∧ n7 = (prodF (s.map (·.f0)) worn j).length ∧ RowKit.Hid (Kd.R Kd.string 9 wr wb.heap.size (fun _ => True) v (prodF (s.map (·.f0)) worn j)) ∧ RowKit.Hid (Below wb.heap.size wb wr)) (fun _ i _ => worn.size - (intOf i).toNat)
    case atStart => exact ⟨0, _, Nat.zero_le _, rfl, rfl, HO7, HW7⟩
    case round =>
      clear HO7 HW7
      obtain ⟨j, n7, hj, rfl, hn7, HR7, HW⟩ := hrel
      obtain ⟨A7, c7, e7⟩ := Kd.R_slice HR7.out
      rw [← hn7] at e7
      subst e7
      obtain ⟨prev, hprev⟩ : ∃ prev, prev = prodF (s.map (·.f0)) worn j := ⟨_, rfl⟩
      rw [← hprev] at HR7 hn7
      have HPV := Lib.hid hprev
      have HN7 := Lib.hid hn7
      have HPL := Lib.hid (show prev.length ≤ 4096 from by rw [hprev]; exact prodF_len (by rw [List.length_map]; exact hs8) hj HGL.out)
      have HPS := Lib.hid (show ∀ x ∈ prev, x.size = j from by rw [hprev]; exact prodF_size _ _ _ hj)
      have hn7b : n7 ≤ 4096 := by rw [hn7]; exact HPL.out
      clear hprev hn7
      by_cases hlt : j < worn.size
      · have hlt2 : (j : Int) < (worn.size : Int) := by omega
        have q1 := eq_true hlt
        have hx : ∀ h : j < worn.size, ((worn[j]'h).toNat : Int) = bt worn (j : Int) := fun h => by simp [bt, h]
        have hw16 := H16.out
        go_wp2_with (first | ((with_reducible refine gate_dst (N := 37) rfl ?_); refine Kd.R_lit Kd.string (w0 := wb) wb.heap.size 9 ?hg (N := 37) ?hd (xs := ([] : List ByteArray)) (inner := []) (ok := fun _ => True) (okp := fun _ => True) ?hr ?hp (fun _ hk => hk) trivial HW.out HW.out.size (by simp) ?_; (case hd => rfl); (case hg => rfl); (case hr => first | (go_simp; done) | (go_simp; rfl)); (case hp => exact (Reps.none _ _)); intro v9 w9 ho hb hg_ hnew_; have HO9 := Lib.hid ho; have HW9 := Lib.hid hb; have NE9 := Lib.hid (fun h => ne_new HR7.out hnew_ (Eq.symm h)); have HR79 := Lib.hid (Kd.R_grown HR7.out hg_ (fun _ _ => by simp)); clear ho hb hg_ hnew_))
        clear q1 hx
        go_loopw [9, 40] (fun v i wr => ∃ (p : Nat), p ≤ n7 ∧ i = .int .i64 p ∧ RowKit.Hid (Kd.R Kd.string 9 wr wb.heap.size (fun _ => True) v ((prev.take p).flatMap (nextP (s.map (·.f0)) worn j))) ∧ RowKit.Hid (Kd.R Kd.string 9 wr wb.heap.size (fun _ => True) (.slice A7 n7 c7) prev) ∧ RowKit.Hid (v.ownBlock ≠ (Value.slice A7 n7 c7).ownBlock) ∧ RowKit.Hid (Below wb.heap.size wb wr)) (fun _ i _ => n7 - (intOf i).toNat)
        case atStart => exact ⟨0, Nat.zero_le _, rfl, Lib.hid (by simpa using HO9.out), HR79, NE9, HW9⟩
        case round =>
          clear HO9 HR79 NE9 HW9 HR7 HW
          obtain ⟨p, hp, rfl, HR9, HR7, NE, HW⟩ := hrel
          by_cases hlp : p < n7
          · have hlp2 : (p : Int) < (n7 : Int) := by omega
            have hpl : p < prev.length := by rw [← HN7.out]; exact hlp
            obtain ⟨ad, ea, hx1⟩ := Kd.at_string (Kd.R_reads' HR7.out).2.2 (p : Int) (by omega) (by have := HN7.out; omega)
            cases ea
            rw [Int.toNat_natCast] at hx1
            obtain ⟨b, hb⟩ : ∃ b, b = rdOf ByteArray.empty prev (p : Int) := ⟨_, rfl⟩
            rw [← hb] at hx1
            have EB := Lib.hid (show b = prev[p] from by rw [hb]; exact rdOf_get _ _ _ hpl)
            have zb : b.size = j := by rw [EB.out]; exact HPS.out _ (List.getElem_mem hpl)
            have HSTEP := Lib.hid (show (prev.take (p + 1)).flatMap (nextP (s.map (·.f0)) worn j) = (prev.take p).flatMap (nextP (s.map (·.f0)) worn j) ++ nextP (s.map (·.f0)) worn j b from by rw [List.take_succ_eq_append_getElem hpl, List.flatMap_append, ← EB.out]; simp)
            have HFL := Lib.hid (flat_len (s.map (·.f0)) worn j (by rw [List.length_map]; exact hs8) prev p)
            clear hb
            have q1 := eq_true hlt
            have hx : ∀ h : j < worn.size, ((worn[j]'h).toNat : Int) = bt worn (j : Int) := fun h => by simp [bt, h]
            by_cases h63 : bt worn (j : Int) = 63
            · have d1 : decide (bt worn (j : Int) = 63) = true := decide_eq_true h63
              have d2 : (bt worn (j : Int) == 63) = true := beq_iff_eq.2 h63
              have d3 : (bt worn (j : Int) != 63) = false := by rw [bne, d2]; rfl
              have HNP := Lib.hid (show nextP (s.map (·.f0)) worn j b = (s.map (·.f0)).map (fun c => b ++ strOfNums [c]) from by unfold nextP; rw [if_pos h63])
              have hd0 : wr.cell? ⟨w.heap.size, 0, none⟩ = some (.slice A0 s.length c0) := bcell HW.out ((blk_cell BKb.out 0).trans rfl)
              clear h63
              have ZB := Lib.hid zb
              clear zb
              go_wp2
              clear hd0 d1 d2 d3 q1 hx hx1
              go_loopw [9, 61] (fun v i wr => ∃ (q : Nat), q ≤ s.length ∧ i = .int .i64 q ∧ RowKit.Hid (Kd.R Kd.string 9 wr wb.heap.size (fun _ => True) v ((prev.take p).flatMap (nextP (s.map (·.f0)) worn j) ++ ((s.map (·.f0)).take q).map (fun c => b ++ strOfNums [c]))) ∧ RowKit.Hid (Kd.R Kd.string 9 wr wb.heap.size (fun _ => True) (.slice (some ad) n7 c7) prev) ∧ RowKit.Hid (v.ownBlock ≠ (Value.slice (some ad) n7 c7).ownBlock) ∧ RowKit.Hid (Below wb.heap.size wb wr)) (fun _ i _ => s.length - (intOf i).toNat)
              case atStart => exact ⟨0, Nat.zero_le _, rfl, Lib.hid (by simpa using HR9.out), HR7, NE, HW⟩
              case round =>
                clear HR9 HR7 NE HW
                obtain ⟨q, hq, rfl, HR9, HR7, NE, HW⟩ := hrel
                by_cases hlq : q < s.length
                · have hlq2 : (q : Int) < (s.length : Int) := by omega
                  obtain ⟨ad3, ea3, hx, hy⟩ := at_T56 (Kd.C_below HR0.out (below_step HWB.out HW.out)) (q : Nat) (by omega) (by omega)
                  cases ea3
                  simp only [Int.toNat_natCast] at hx hy
                  obtain ⟨sb, hsb⟩ : ∃ sb, sb = strOfNums [(rd_T56 s (q : Int)).f0] := ⟨_, rfl⟩
                  have EX := Lib.hid (show ((s.map (·.f0)).take (q + 1)).map (fun c => b ++ strOfNums [c]) = ((s.map (·.f0)).take q).map (fun c => b ++ strOfNums [c]) ++ [b ++ sb] from by
                    rw [map_stepT (fun c => b ++ strOfNums [c]) (s.map (·.f0)) q (by rw [List.length_map]; exact hlq), List.getElem_map, hsb, rdSG_get _ _ hlq])
                  have zs : sb.size = 1 := by rw [hsb]; rfl
                  have BP := Lib.hid (heap_alloc_new (wr.alloc (.cells #[.int .u8 (rd_T56 s (q : Int)).f0, .int .i16 (rd_T56 s (q : Int)).f1] 56)) (.cells #[.int .u8 (rd_T56 s (q : Int)).f0] 5))
                  have hcv := run_convert_bytes_arg (P := Tryd.prog) ((wr.alloc (.cells #[.int .u8 (rd_T56 s (q : Int)).f0, .int .i16 (rd_T56 s (q : Int)).f1] 56)).alloc (.cells #[.int .u8 (rd_T56 s (q : Int)).f0] 5)) 57 5 Tryd.underlying57 Tryd.underlying5 (wr.heap.size + 1) 0 1 1 [(rd_T56 s (q : Int)).f0] rfl (fun i hi => by obtain rfl : i = 0 := (by omega); have h0 := (blk_cell BP.out 0); rw [show (wr.alloc (.cells #[.int .u8 (rd_T56 s (q : Int)).f0, .int .i16 (rd_T56 s (q : Int)).f1] 56)).heap.size = wr.heap.size + 1 by simp] at h0; exact h0.trans rfl) 9 Tryd.underlying9
                  rw [← hsb] at hcv
                  have zb := ZB.out
                  have y1 : decide (b.size + sb.size ≤ 9223372036854775807) = true := decide_eq_true (by omega)
                  have y2 : (9223372036854775807 < b.size + sb.size) = False := eq_false (by omega)
                  have HLA := Lib.hid (show (((prev.take p).flatMap (nextP (s.map (·.f0)) worn j) ++ ((s.map (·.f0)).take q).map (fun c => b ++ strOfNums [c])).length + 1) * 16 ≤ 140737488355328 from by
                    have h1 := HFL.out; have h2 := HPL.out
                    rw [List.length_append, List.length_map, List.length_take, List.length_map]
                    omega)
                  clear zb zs hsb BP
                  go_wp2_with (first | ((with_reducible refine gate_builtin (b := .append) (xs := #[.tmp 65, .tmp 72]) rfl ?_); at_builtin; refine Kd.R_append Kd.string (w0 := wb) wb.heap.size rfl (.tmp 65) (.tmp 72) 37 9 (.string ⟨#[]⟩) 16 rfl Tryd.underlying37 info9 rfl (by decide) (by omega) u9 ((prev.take p).flatMap (nextP (s.map (·.f0)) worn j) ++ ((s.map (·.f0)).take q).map (fun c => b ++ strOfNums [c])) (b ++ sb) [.string (b ++ sb)] (fun _ => True) (fun _ => False) ?hS ?hX ?aP (fun _ hk => hk.elim) ?aF ?aO ?aB ?aS ?aL ?_; (case hS => rfl); (case hX => first | rfl | (go_simp; done) | (simp [World.alloc]; done) | (go_simp; rfl)); (case aP => exact rfl); (case aF => exact (fun _ _ => trivial)); (case aO => exact Kd.R_alloc (Kd.R_alloc HR9.out _) _); (case aB => exact below_alloc (below_alloc HW.out _) _); (case aS => exact (below_alloc (below_alloc HW.out _) _).size); (case aL => exact HLA.out); intro v9 w9 ho hb hg hat; have HE9 := Lib.hid ho; have HW9 := Lib.hid hb; have HR79 := Lib.hid (Kd.R_grown1 (Kd.R_alloc (Kd.R_alloc HR7.out _) _) rfl hg NE.out); have NE9 := Lib.hid (ne_after (Kd.R_alloc (Kd.R_alloc HR7.out _) _) NE.out hat); clear ho hb hg hat))
                  go_roundw
                  case measure => simp only [intOf]; omega
                  case rel => exact ⟨q + 1, by omega, by go_num, Lib.hid (by rw [EX.out, ← List.append_assoc]; exact HE9.out), HR79, NE9, HW9⟩
                · have hlq2 : ¬ (q : Int) < (s.length : Int) := by omega
                  have HQ := Lib.hid (show (prev.take p).flatMap (nextP (s.map (·.f0)) worn j) ++ ((s.map (·.f0)).take q).map (fun c => b ++ strOfNums [c]) = (prev.take (p + 1)).flatMap (nextP (s.map (·.f0)) worn j) from by
                    rw [show (s.map (·.f0)).take q = s.map (·.f0) from List.take_of_length_le (by rw [List.length_map]; omega), HSTEP.out, HNP.out])
                  rw [HQ.out] at HR9
                  go_wp2
                  go_roundw
                  case measure => simp only [intOf]; omega
                  case rel => exact ⟨p + 1, by omega, by go_num, HR9, HR7, NE, HW⟩
            · have d1 : decide (bt worn (j : Int) = 63) = false := decide_eq_false h63
              have d2 : (bt worn (j : Int) == 63) = false := beq_eq_false_iff_ne.2 h63
              have d3 : (bt worn (j : Int) != 63) = true := by rw [bne, d2]; rfl
              obtain ⟨xt, hxt⟩ : ∃ xt, xt = worn.extract j (j + 1) := ⟨_, rfl⟩
              have HNP := Lib.hid (show nextP (s.map (·.f0)) worn j b = [b ++ xt] from by unfold nextP; rw [if_neg h63, hxt])
              have zx : xt.size = 1 := by rw [hxt, ByteArray.size_extract]; omega
              have hsl : ∀ W : World, (Instr.slice 9 (.string worn) (some (.int .i64 (j : Int))) (some (.int .i64 ((j : Int) + 1))) none).run Tryd.prog W = .ok (.string xt) W := fun W => by
                have := run_slice_string (P := Tryd.prog) (w := W) 9 worn .i64 .i64 (j : Int) ((j : Int) + 1) Tryd.underlying9 (by omega) (by omega) (by omega)
                rw [this, hxt]
                rfl
              have y1 : decide (b.size + xt.size ≤ 9223372036854775807) = true := decide_eq_true (by omega)
              have y2 : (9223372036854775807 < b.size + xt.size) = False := eq_false (by omega)
              have HLA := Lib.hid (show (((prev.take p).flatMap (nextP (s.map (·.f0)) worn j)).length + 1) * 16 ≤ 140737488355328 from by have h1 := HFL.out; have h2 := HPL.out; omega)
              clear h63 hxt zx zb
              go_wp2_with (first | ((with_reducible refine gate_builtin (b := .append) (xs := #[.tmp 48, .tmp 56]) rfl ?_); at_builtin; refine Kd.R_append Kd.string (w0 := wb) wb.heap.size rfl (.tmp 48) (.tmp 56) 37 9 (.string ⟨#[]⟩) 16 rfl Tryd.underlying37 info9 rfl (by decide) (by omega) u9 ((prev.take p).flatMap (nextP (s.map (·.f0)) worn j)) (b ++ xt) [.string (b ++ xt)] (fun _ => True) (fun _ => False) ?hS ?hX ?aP (fun _ hk => hk.elim) ?aF ?aO ?aB ?aS ?aL ?_; (case hS => rfl); (case hX => first | rfl | (go_simp; done) | (simp [World.alloc]; done) | (go_simp; rfl)); (case aP => exact rfl); (case aF => exact (fun _ _ => trivial)); (case aO => exact HR9.out); (case aB => exact HW.out); (case aS => exact HW.out.size); (case aL => exact HLA.out); intro v9 w9 ho hb hg hat; have HE9 := Lib.hid ho; have HW9 := Lib.hid hb; have HR79 := Lib.hid (Kd.R_grown1 HR7.out rfl hg NE.out); have NE9 := Lib.hid (ne_after HR7.out NE.out hat); clear ho hb hg hat))
              go_roundw
              case measure => simp only [intOf]; omega
              case rel => exact ⟨p + 1, by omega, by go_num, Lib.hid (by rw [HSTEP.out, HNP.out]; exact HE9.out), HR79, NE9, HW9⟩
          · have hlp2 : ¬ (p : Int) < (n7 : Int) := by omega
            have HEND := Lib.hid (show (prev.take p).flatMap (nextP (s.map (·.f0)) worn j) = prodF (s.map (·.f0)) worn (j + 1) from by
              rw [List.take_of_length_le (by have := HN7.out; omega), HPV.out]; rfl)
            rw [HEND.out] at HR9
            go_wp2
            go_roundw
            case measure => simp only [intOf]; omega
            case rel => exact ⟨j + 1, _, by omega, by go_num, rfl, HR9, HW⟩
      · have hlt2 : ¬ (j : Int) < (worn.size : Int) := by omega
        have ej : j = worn.size := by omega
        obtain ⟨ad, ea, hx1⟩ := Kd.at_string (Kd.R_reads' HR7.out).2.2 0 (by omega) (by have := prodF_pos (ls := s.map (·.f0)) (worn := worn) (by rw [List.length_map]; exact okB_pos HT.out) j; rw [← HPV.out] at this; omega)
        cases ea
        obtain ⟨b7, eb7, hbb, hcc⟩ := R_own0 HR7.out (by have := prodF_pos (ls := s.map (·.f0)) (worn := worn) (by rw [List.length_map]; exact okB_pos HT.out) j; rw [← HPV.out] at this; omega)
        injection eb7 with eb7
        subst eb7
        clear hx1
        have HN := HN7.out
        subst HN
        have HDEL := Lib.hid (delete_func_string 73 #[.pointer (some ⟨w.heap.size, 0, none⟩)] (fun x => !rightB s m x) prev (some ⟨b7, 0, none⟩) c7 wb.heap.size (fun _ => True) wr (enters_of Tryd.func73 (by kernel_rfl) rfl) HR7.out HW.out.size (by have := HPL.out; omega) (fun x hx W hW => by
          have hW0 := HWB.out
          have hWW : Below w.heap.size w W := below_step HWB.out (HW.out.trans hW)
          have hbk := (hW.block w.heap.size SVb.out).trans ((HW.out.block w.heap.size SVb.out).trans BKb.out)
          exact impl_readings1.calls w.heap.size A0 c0 s A1 c1 m x W hbk (Kd.C_below HR0.out hWW) hc0 (Kd.C_below HR1.out hWW) hc1 ⟨hls, hlm, HFB.out, by decide⟩ (by rw [HPS.out x hx]; have := H16.out; omega)))
        have HFI := Lib.hid (show prev.filter (fun x => !(fun x => !rightB s m x) x) = prev.filter (rightB s m) from by simp)
        rw [HFI.out] at HDEL
        obtain ⟨fl, hfl⟩ : ∃ fl, fl = prev.filter (rightB s m) := ⟨_, rfl⟩
        have HOUT := Lib.hid (show outI s m worn = sortB fl from by unfold outI; rw [hfl, HPV.out, ej])
        rw [← hfl] at HDEL
        have HFLN := Lib.hid (show fl.length ≤ 1048576 from by rw [hfl]; have := HPL.out; have := List.length_filter_le (rightB s m) prev; omega)
        have HSL := Lib.hid (sortB_len fl)
        have hcode : (if (outI s m worn).length ≤ 500 then (0 : Int) else 3) = (if fl.length ≤ 500 then 0 else 3) := by rw [HOUT.out, HSL.out]
        obtain ⟨code, hcd⟩ : ∃ code : Int, code = (if fl.length ≤ 500 then 0 else 3) := ⟨_, rfl⟩
        have e : res = (sortB fl, code) := by rw [HRS1.out, hcode, HOUT.out, hcd]
        subst e
        have HUN := Lib.hid (show impl_unless.f (decide ((fl.length : Int) ≤ 500)) 3 = some code from by
          rw [hcd]
          unfold impl_unless.f
          by_cases h : fl.length ≤ 500
          · rw [if_pos h, if_pos (decide_eq_true (by omega))]
          · rw [if_neg h, if_neg (by rw [decide_eq_false (by omega)]; simp)])
        clear hcode hcd hfl HPS HPL HPV HOUT
        obtain ⟨nf, hnf⟩ : ∃ nf, nf = fl.length := ⟨_, rfl⟩
        rw [← hnf] at HDEL HUN HFLN HSL
        have HNF2 := Lib.hid hnf
        clear hnf
        go_wp2_with (first | (go_at_call 72; (with_reducible refine HDEL.out.mono ?_); rintro e w2 ⟨rfl, hR, hb⟩; have R2 := Lib.hid hR; have W2 := Lib.hid (HW.out.trans hb); clear hR hb) | (go_at_call 75; have hsort := slices_Sort_string.callsR b7 c7 wb.heap.size (fun _ => True) fl _ (by have := R2.out; rw [HNF2.out] at this; exact this) (by rw [← HNF2.out]; exact HFLN.out); rw [← HNF2.out] at hsort; (with_reducible refine hsort.mono ?_); rintro e w3 ⟨rfl, hR, hg, hbs⟩; have R3 := Lib.hid hR; clear hsort; have W3 := Lib.hid (show Below wb.heap.size wb w3 from W2.out.trans ⟨hg.os, hg.tape, hg.output, hg.size, fun k hk => hg.block k (Nat.lt_of_lt_of_le hk W2.out.size) (by intro h; injection h with h; omega)⟩); clear hR hg hbs) | (go_at_call 76; with_reducible refine (impl_unless.calls (decide ((nf : Int) ≤ 500)) 3 _ _ HUN.out).mono ?_; rintro e w4 ⟨rfl, ⟨nd, rfl⟩⟩))
        go_ret2
        refine ⟨_, rfl, ?_, ?_⟩
        · have h9 := R3.out
          exact Kd.R_drewN (Kd.R_lower h9 HWB.out.size) _
        · exact pw_below_drewN (below_step HWB.out W3.out) _
theorem impl_Readings.callsT (A0 : Option Addr) (c0 : Nat) (s : List SG) (A1 : Option Addr) (c1 : Nat) (m : List MP) (worn : ByteArray) (w : World) (hG : Glob w) (hr0 : Kd.C k56 w A0 s.length s) (hc0 : s.length ≤ c0) (hr1 : Kd.C k59 w A1 m.length m) (hc1 : m.length ≤ c1) (hf : bigR s m worn) :
    Calls Tryd.prog 15 #[.agg #[.slice A0 s.length c0, .slice A1 m.length c1], .string worn] w fun e w' => ∃ v0_ : Value, e = .returned (.tuple #[v0_, .int .i64 (readI s m worn).2]) ∧ Kd.R Kd.string 9 w' w.heap.size (fun _ => True) v0_ (if (readI s m worn).2 = 0 then (readI s m worn).1 else []) ∧ Below w.heap.size w w' := by
  have HB1 := Lib.hid (below_alloc (Below.refl w.heap.size w) (.cells #[.slice A0 s.length c0, .slice A1 m.length c1] 30))
  have HC := Lib.hid (impl_readings.callsT A0 c0 s A1 c1 m worn (w.alloc (.cells #[.slice A0 s.length c0, .slice A1 m.length c1] 30)) (hG.step HB1.out) (Kd.C_below hr0 HB1.out) hc0 (Kd.C_below hr1 HB1.out) hc1 hf)
  clear hr0 hr1 hG
  obtain ⟨res, hres⟩ : ∃ res, res = readI s m worn := ⟨_, rfl⟩
  rw [← hres] at HC ⊢
  clear hres
  obtain ⟨rl, rc⟩ := res
  dsimp only at HC ⊢
  by_cases h0 : rc = 0
  · subst h0
    go_enter Tryd.func15, Tryd.ntmps15
    go_wp2_with (first | (go_at_call 35; with_reducible refine HC.out.mono ?_; rintro e w1 ⟨v1, rfl, hR, hb⟩; have HR := Lib.hid (Kd.R_lower hR HB1.out.size); have HB := Lib.hid (below_step HB1.out hb); clear hR hb))
    go_ret2
    exact ⟨_, rfl, by first | exact HR.out | (rw [if_pos rfl]; exact HR.out), HB.out⟩
  · have d1 : (rc == 0) = false := beq_eq_false_iff_ne.2 h0
    have d2 : decide (rc = 0) = false := decide_eq_false h0
    have d3 : (rc != 0) = true := by rw [bne, d1]; rfl
    have H0 := Lib.hid h0
    clear h0
    go_enter Tryd.func15, Tryd.ntmps15
    go_wp2_with (first | (go_at_call 35; with_reducible refine HC.out.mono ?_; rintro e w1 ⟨v1, rfl, hR, hb⟩; have HB := Lib.hid (below_step HB1.out hb); clear hR hb))
    go_ret2
    exact ⟨_, rfl, by first | exact Kd.R_nil _ _ _ _ _ | (rw [if_neg H0.out]; exact Kd.R_nil _ _ _ _ _), HB.out⟩
end Go.Proofs.YtdhhnkhgmoblhaaDoor.Q
