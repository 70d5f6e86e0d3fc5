/- spec.SureLetters by hand: the letters on which all readings agree. -/
import Derived.Test.YtdhhnkhgmoblhaaDoorQhandReadings
import Derived.Test.YtdhhnkhgmoblhaaDoorBytes
import Derived.Test.YtdhhnkhgmoblhaaDoorQhandFuncT
namespace Go.Proofs.YtdhhnkhgmoblhaaDoor.Q
open Go.RowKit Go.Proofs.YtdhhnkhgmoblhaaDoorW.PrintWords Go.Proofs.YtdhhnkhgmoblhaaDoorW.PrintLast Go.Proofs.YtdhhnkhgmoblhaaDoorW.PrintMore
open Go.Proofs.YtdhhnkhgmoblhaaDoor.Pure Go.Proofs.YtdhhnkhgmoblhaaDoor.Bytes
set_option linter.unusedVariables false
set_option linter.unusedSimpArgs false

def outG (f : Nat → Int) (t : ByteArray) (i : Nat) : List Int := (List.range t.size).map (fun j => if j < i then f j else bt t j)
theorem outG_len (f : Nat → Int) (t : ByteArray) (i : Nat) : (outG f t i).length = t.size := by simp [outG]
theorem outG_step (f : Nat → Int) (t : ByteArray) (i : Nat) (h : i < t.size) : outG f t (i + 1) = (outG f t i).set i (f i) := by
  apply List.ext_getElem?
  intro j
  by_cases hj : j < t.size
  · by_cases hji : i = j
    · subst hji
      rw [List.getElem?_set_self (by rw [outG_len]; exact h)]
      simp [outG, h]
    · rw [List.getElem?_set_ne hji]
      simp only [outG, List.getElem?_map, List.getElem?_range hj, Option.map_some]
      by_cases h1 : j < i
      · rw [if_pos h1, if_pos (by omega)]
      · rw [if_neg h1, if_neg (by omega)]
  · rw [List.getElem?_eq_none (by rw [outG_len]; omega), List.getElem?_eq_none (by rw [List.length_set, outG_len]; omega)]
theorem outG_same (f : Nat → Int) (t : ByteArray) (i : Nat) (h : i < t.size) (hx : f i = bt t i) : outG f t (i + 1) = outG f t i := by
  rw [outG_step f t i h]
  apply List.ext_getElem?
  intro j
  by_cases hji : i = j
  · subst hji
    rw [List.getElem?_set_self (by rw [outG_len]; exact h)]
    simp [outG, h, hx]
  · rw [List.getElem?_set_ne hji]
theorem outG_zero (f : Nat → Int) (t : ByteArray) : outG f t 0 = bytesOf t := by
  apply List.ext_getElem?
  intro j
  by_cases hj : j < t.size
  · rw [bytesOf_get t j hj]
    simp [outG, hj]
  · rw [List.getElem?_eq_none (by rw [outG_len]; omega), List.getElem?_eq_none (by rw [bytesOf_length]; omega)]
def pB (x0 : ByteArray) (i : Nat) (x : ByteArray) : Bool := decide (bt x i = bt x0 i)
def fB (l : List ByteArray) (x0 t : ByteArray) (i : Nat) : Int := if l.all (pB x0 i) = true then bt x0 i else bt t i
def sureS (s : List SG) (m : List MP) (t : ByteArray) : ByteArray × Int :=
  if (readS s m t).2 = 0 then (if (readS s m t).1 = [] then (⟨#[]⟩, 6) else (strOfNums (outG (fB (readS s m t).1 (rdOf ByteArray.empty (readS s m t).1 0) t) t t.size), 0)) else (⟨#[]⟩, (readS s m t).2)
theorem allB_step {α : Type} (p : α → Bool) (l : List α) (k : Nat) (h : k < l.length) : (l.take (k + 1)).all p = ((l.take k).all p && p l[k]) := by
  rw [List.take_succ_eq_append_getElem h, List.all_append, List.all_cons, List.all_nil, Bool.and_true]
theorem sortB_mem {l : List ByteArray} {x : ByteArray} (h : x ∈ sortB l) : x ∈ l := by
  unfold sortB at h
  obtain ⟨b, hb, rfl⟩ := List.mem_map.1 h
  have h2 := (List.mergeSort_perm _ _).mem_iff.1 hb
  unfold bytesL at h2
  obtain ⟨y, hy, rfl⟩ := List.mem_map.1 h2
  exact hy
theorem outI_size {s : List SG} {m : List MP} {worn : ByteArray} {x : ByteArray} (h : x ∈ outI s m worn) : x.size = worn.size := by
  unfold outI at h
  have := sortB_mem h
  exact prodF_size _ _ _ (Nat.le_refl _) x (List.mem_filter.1 this).1
theorem readI_size {s : List SG} {m : List MP} {worn : ByteArray} : ∀ x ∈ (readI s m worn).1, x.size = worn.size ∧ x.size ≤ 16 := by
  intro x hx
  unfold readI at hx
  split at hx
  · split at hx
    · rename_i h16
      split at hx
      · have := outI_size hx
        exact ⟨this, by omega⟩
      · simp at hx
    · simp at hx
  · simp at hx
theorem readS_size {s : List SG} {m : List MP} {worn : ByteArray} : ∀ x ∈ (readS s m worn).1, x.size = worn.size ∧ x.size ≤ 16 := by
  intro x hx
  rw [readings_same] at hx
  dsimp only at hx
  split at hx
  · exact readI_size x hx
  · simp at hx
theorem readS_len' (s : List SG) (m : List MP) (t : ByteArray) : (readS s m t).1.length ≤ 501 := by
  unfold readS
  split
  · split
    · split
      · split
        · split
          · exact fromF_len _ _ _ _ _ _ (Nat.zero_le _)
          · exact Nat.zero_le _
        · exact Nat.zero_le _
      · exact Nat.zero_le _
    · exact Nat.zero_le _
  · exact Nat.zero_le _

set_option maxRecDepth 20000 in
set_option maxHeartbeats 4000000 in
theorem spec_SureLetters.callsT (A0 : Option Addr) (c0 : Nat) (s : List SG) (A1 : Option Addr) (c1 : Nat) (m : List MP) (worn : ByteArray) (w : World) (hr0 : Kd.C k56 w A0 s.length s) (hc0 : s.length ≤ c0) (hr1 : Kd.C k59 w A1 m.length m) (hc1 : m.length ≤ c1) (hf : bigR s m worn) :
    Calls Tryd.prog 12 #[.agg #[.slice A0 s.length c0, .slice A1 m.length c1], .string worn] w fun e w' => e = .returned (.tuple #[.string (sureS s m worn).1, .int .i64 (sureS s m worn).2]) ∧ Below w.heap.size w w' := by
  have HI0 := Lib.hid (isS_new hr0 hr1 (c0_0 := c0) (c0_1 := c1))
  have HB0 := Lib.hid (below_alloc (Below.refl w.heap.size w) (.cells #[.slice A0 s.length c0, .slice A1 m.length c1] 30))
  have HRL := Lib.hid (readS_len' s m worn)
  have HSZ := Lib.hid (readS_size (s := s) (m := m) (worn := worn))
  have HC := Lib.hid (fun (W : World) hI hB => spec_l03Readings.callsT w.heap.size s m worn w W hI hB hf)
  have HWS := Lib.hid (show worn.size ≤ 1048576 from hf.2.2.2)
  obtain ⟨res, hres⟩ : ∃ res, res = sureS s m worn := ⟨_, rfl⟩
  rw [← hres]
  unfold sureS at hres
  obtain ⟨rd, hrd⟩ : ∃ rd, rd = readS s m worn := ⟨_, rfl⟩
  rw [← hrd] at HC HSZ HRL hres
  obtain ⟨l, rc⟩ := rd
  dsimp only at HC HSZ HRL hres
  clear hr0 hr1 hf hrd
  by_cases h0 : rc = 0
  rotate_left
  · have d1 : (rc == 0) = false := beq_eq_false_iff_ne.2 h0
    have d2 : decide (rc = 0) = false := decide_eq_false h0
    have d3 : (rc != 0) = true := by rw [bne, d1]; rfl
    rw [if_neg h0] at hres
    subst hres
    clear h0
    go_enter Tryd.func12, Tryd.ntmps12
    go_wp2_with (go_at_call 34; (with_reducible refine (HC.out _ HI0.out HB0.out).mono ?_); rintro e w4 ⟨v1, rfl, hR, hi, hb, _⟩; have HRX := Lib.hid (Kd.R_lower hR HB0.out.size); have HI4 := Lib.hid hi; have HB4 := Lib.hid hb; clear hR hi hb)
    go_ret2
    exact ⟨rfl, HB4.out⟩
  · subst h0
    rw [if_pos rfl] at hres
    have L501 := HRL.out
    by_cases hl : l = []
    · subst hl
      rw [if_pos rfl] at hres
      subst hres
      go_enter Tryd.func12, Tryd.ntmps12
      go_wp2_with (go_at_call 34; (with_reducible refine (HC.out _ HI0.out HB0.out).mono ?_); rintro e w4 ⟨v1, rfl, hR, hi, hb, _⟩; obtain ⟨AL, cl, eL⟩ := Kd.R_slice hR; subst eL; have HRX := Lib.hid (Kd.R_lower hR HB0.out.size); have HI4 := Lib.hid hi; have HB4 := Lib.hid hb; clear hR hi hb)
      go_ret2
      exact ⟨rfl, HB4.out⟩
    · rw [if_neg hl] at hres
      have HRES := Lib.hid hres
      clear hres
      obtain ⟨nl, hnl⟩ : ∃ nl, nl = l.length := ⟨_, rfl⟩
      have hpos : 0 < nl := by rw [hnl]; exact List.length_pos_iff.2 hl
      have HNL := Lib.hid hnl
      have hlz : ((nl : Int) == 0) = false := by simp; omega
      have hlz2 : ¬ (nl : Int) = 0 := by omega
      rw [← hnl] at L501
      clear hl hnl
      have hcv := fun W => Lib.run_convert_string_bytes (P := Tryd.prog) W 9 57 5 worn (u := .string) Tryd.underlying9 Tryd.underlying57 Tryd.underlying5
      have HX0 := Lib.hid (show rdOf ByteArray.empty l 0 ∈ l from by rw [show (0 : Int) = ((0 : Nat) : Int) from rfl, rdOf_get _ _ _ (by rw [← HNL.out]; exact hpos)]; exact List.getElem_mem _)
      have HX1 := Lib.hid (show l.take 1 = [rdOf ByteArray.empty l 0] from by rw [show (0 : Int) = ((0 : Nat) : Int) from rfl, rdOf_get _ _ _ (by rw [← HNL.out]; exact hpos)]; have := List.take_succ_eq_append_getElem (show 0 < l.length by rw [← HNL.out]; exact hpos); simpa using this)
      obtain ⟨x0, hx0⟩ : ∃ x, x = rdOf ByteArray.empty l 0 := ⟨_, rfl⟩
      have E0 := Lib.hid hx0
      rw [← hx0] at HX0 HX1 HRES
      clear hx0
      go_enter Tryd.func12, Tryd.ntmps12
      go_wp2_with (go_at_call 34; (with_reducible refine (HC.out _ HI0.out HB0.out).mono ?_); rintro e w4 ⟨v1, rfl, hR, hi, hb, _⟩; obtain ⟨AL, cl, eL⟩ := Kd.R_slice hR; rw [← HNL.out] at eL; subst eL; have HRX := Lib.hid (Kd.R_lower hR HB0.out.size); have HI4 := Lib.hid hi; have HB4 := Lib.hid hb; clear hR hi hb)
      have hws : worn.size ≤ 1048576 := HWS.out
      have HRX2 := Lib.hid (Kd.R_mono (Kd.R_bound HRX.out) (fun k hk => (hk.2.2.1 : k < w4.heap.size)))
      have HG4 := Lib.hid (show w.heap.size ≤ w4.heap.size from HB4.out.size)
      go_loopw [9] (fun i wr => ∃ j : Nat, j ≤ worn.size ∧ i = .int .i64 j ∧ RowKit.Hid (BRow 5 wr w4.heap.size (grownCap w4 worn.size 0 5) (outG (fB l x0 worn) worn j)) ∧ RowKit.Hid (Kd.R Kd.string 9 wr w.heap.size (fun k => k < w4.heap.size) (.slice AL nl cl) l) ∧ RowKit.Hid (Below w.heap.size w wr)) (fun i _ => worn.size - (intOf i).toNat)
      case atStart => exact ⟨0, Nat.zero_le _, rfl, Lib.hid (by rw [outG_zero]; exact made w4 _ worn (grownCap_ge w4 worn.size 0 _)), Lib.hid (Kd.R_below HRX2.out (below_bytes w4 _ worn)), Lib.hid (below_step HB4.out (below_bytes w4 _ worn))⟩
      case round =>
        obtain ⟨j, hj, rfl, HBR, HL, HB⟩ := hrel
        by_cases hlt : j < worn.size
        · have HOL := Lib.hid (outG_len (fB l x0 worn) worn j)
          go_wp2
          go_loopw [10, 11] (fun b kk wr => ∃ k : Nat, 1 ≤ k ∧ k ≤ nl ∧ kk = .int .i64 k ∧ b = .bool ((l.take k).all (pB x0 j)) ∧ RowKit.Hid (BRow 5 wr w4.heap.size (grownCap w4 worn.size 0 5) (outG (fB l x0 worn) worn j)) ∧ RowKit.Hid (Kd.R Kd.string 9 wr w.heap.size (fun k => k < w4.heap.size) (.slice AL nl cl) l) ∧ RowKit.Hid (Below w.heap.size w wr)) (fun _ kk _ => nl - (intOf kk).toNat)
          case atStart => exact ⟨1, Nat.le_refl _, hpos, rfl, by rw [HX1.out]; simp [pB], HBR, HL, HB⟩
          case round =>
            clear HBR HL HB
            obtain ⟨k, hk1, hk, rfl, rfl, HBR, HL, HB⟩ := hrel
            obtain ⟨ad, ea, hx0⟩ := Kd.at_string (Kd.R_reads' HL.out).2.2 0 (by omega) (by have := HNL.out; omega)
            cases ea
            rw [← E0.out] at hx0
            simp only [Int.toNat_zero] at hx0
            have hx0b := hx0
            rw [show ad.add 0 = ad from if_pos rfl] at hx0b
            have hlt0 : j < x0.size := by rw [(HSZ.out _ HX0.out).1]; exact hlt
            have hy0 := bt_at x0 j
            simp only [Int.toNat_natCast] at hy0
            obtain ⟨fl, hfl⟩ : ∃ fl, fl = (l.take k).all (pB x0 j) := ⟨_, rfl⟩
            rw [← hfl]
            have HFL := Lib.hid hfl
            clear hfl
            by_cases hk2 : k < nl
            · have hk3 : (k : Int) < (nl : Int) := by omega
              have hkl : k < l.length := by rw [← HNL.out]; exact hk2
              obtain ⟨ad2, ea, hxk⟩ := Kd.at_string (Kd.R_reads' HL.out).2.2 (k : Int) (by omega) (by have := HNL.out; omega)
              cases ea
              rw [Int.toNat_natCast] at hxk
              obtain ⟨xk, hxx⟩ : ∃ x, x = rdOf ByteArray.empty l (k : Int) := ⟨_, rfl⟩
              rw [← hxx] at hxk
              have EX := Lib.hid (show xk = l[k] from by rw [hxx]; exact rdOf_get _ _ _ hkl)
              have HST := Lib.hid (allB_step (pB x0 j) l k hkl)
              rw [← EX.out] at HST
              have hltk : j < xk.size := by rw [EX.out, (HSZ.out _ (List.getElem_mem hkl)).1]; exact hlt
              have hyk := bt_at xk j
              simp only [Int.toNat_natCast] at hyk
              clear hxx
              cases fl with
              | false =>
                go_wp2
                go_quiet (fail)
                go_wp2
                go_roundw
                case measure => simp only [intOf]; omega
                case rel => exact ⟨k + 1, by omega, by omega, by go_num, by rw [HST.out, ← HFL.out]; rfl, Lib.hid (HBR.out.drewN _), Lib.hid (Kd.R_drewN HL.out _), Lib.hid (pw_below_drewN HB.out _)⟩
              | true =>
                by_cases c1 : bt xk j = bt x0 j
                · have t1 : (bt xk j == bt x0 j) = true := beq_iff_eq.2 c1
                  have HP := Lib.hid (show pB x0 j xk = true from decide_eq_true c1)
                  go_wp2
                  go_quiet (fail)
                  go_wp2
                  go_roundw
                  case measure => simp only [intOf]; omega
                  case rel => exact ⟨k + 1, by omega, by omega, by go_num, by rw [HST.out, ← HFL.out, HP.out]; rfl, Lib.hid (HBR.out.drewN _), Lib.hid (Kd.R_drewN HL.out _), Lib.hid (pw_below_drewN HB.out _)⟩
                · have t1 : (bt xk j == bt x0 j) = false := beq_eq_false_iff_ne.2 c1
                  have HP := Lib.hid (show pB x0 j xk = false from decide_eq_false c1)
                  go_wp2
                  go_quiet (fail)
                  go_wp2
                  go_roundw
                  case measure => simp only [intOf]; omega
                  case rel => exact ⟨k + 1, by omega, by omega, by go_num, by rw [HST.out, ← HFL.out, HP.out]; rfl, Lib.hid (HBR.out.drewN _), Lib.hid (Kd.R_drewN HL.out _), Lib.hid (pw_below_drewN HB.out _)⟩
            · have hk3 : ¬ (k : Int) < (nl : Int) := by omega
              have HTL := Lib.hid (show l.take k = l from List.take_of_length_le (by have := HNL.out; omega))
              rw [HTL.out] at HFL
              have hz := HBR.out.frozen j (by rw [HOL.out]; exact hlt)
              have hx := HBR.out.cell j (by rw [HOL.out]; exact hlt)
              cases fl with
              | false =>
                have HFB := Lib.hid (show fB l x0 worn j = bt worn j from by unfold fB; rw [← HFL.out]; rfl)
                go_wp2
                go_roundw
                case measure => simp only [intOf]; omega
                case rel => exact ⟨j + 1, by omega, by go_num, Lib.hid (by rw [outG_same _ _ _ hlt HFB.out]; exact HBR.out), HL, HB⟩
              | true =>
                have HFB := Lib.hid (show fB l x0 worn j = bt x0 j from by unfold fB; rw [← HFL.out]; rfl)
                go_wp2
                go_roundw
                case measure => simp only [intOf]; omega
                case rel => exact ⟨j + 1, by omega, by go_num, Lib.hid (by rw [outG_step _ _ _ hlt, HFB.out]; exact HBR.out.set j (by rw [HOL.out]; exact hlt) _), Lib.hid (Kd.R_far HL.out (p := ⟨w4.heap.size, j, none⟩) (fun k hk => Nat.ne_of_lt hk) _), Lib.hid (HB.out.setCell HG4.out _)⟩
        · have HJ := Lib.hid (show j = worn.size by omega)
          have hstr := fun c => HBR.out.string Tryd.underlying57 Tryd.underlying5 Tryd.underlying9 c worn.size (outG_len _ _ _)
          have hlt2 : ¬ (j : Int) < (worn.size : Int) := by omega
          have HR2 := Lib.hid (show res = (strOfNums (outG (fB l x0 worn) worn j), 0) from by rw [HJ.out]; exact HRES.out)
          go_wp2
          go_ret2
          rw [HR2.out]
          exact ⟨rfl, HB.out⟩

set_option maxRecDepth 20000 in
theorem impl_Sure1.calls (gi gl : Nat) (ad : Addr) (c nl i : Nat) (x x0 : ByteArray) (W : World) (hi : W.cell? ⟨gi, 0, none⟩ = some (.int .i64 i)) (hl : W.cell? ⟨gl, 0, none⟩ = some (.slice (some ad) nl c)) (h0 : W.cell? ad = some (.string x0)) (hpos : 0 < nl) (hx : i < x.size) (hx0 : i < x0.size) (h16 : x.size ≤ 1048576) :
    Calls Tryd.prog 37 #[.string x, .pointer (some ⟨gi, 0, none⟩), .pointer (some ⟨gl, 0, none⟩)] W fun e w' => e = .returned (.bool (!pB x0 i x)) ∧ Below W.heap.size W w' := by
  have h0b : W.cell? (ad.add 0) = some (.string x0) := by rw [show ad.add 0 = ad from if_pos rfl]; exact h0
  have hy0 := bt_at x0 i
  simp only [Int.toNat_natCast] at hy0
  have hyk := bt_at x i
  simp only [Int.toNat_natCast] at hyk
  obtain ⟨bv, hbv⟩ : ∃ bv, bv = (!pB x0 i x) := ⟨_, rfl⟩
  rw [← hbv]
  unfold pB at hbv
  by_cases c1 : bt x i = bt x0 i
  · have t1 : (bt x i != bt x0 i) = false := bne_eq_false_iff_eq.2 c1
    have HV := Lib.hid (show bv = false by rw [hbv, decide_eq_true c1]; rfl)
    clear hbv
    go_enter Tryd.func37, Tryd.ntmps37
    go_wp2
    go_quiet (fail)
    go_wp2
    go_ret
    rw [HV.out]
    exact ⟨rfl, pw_below_drewN (Below.refl _ _) _⟩
  · have t1 : (bt x i != bt x0 i) = true := bne_iff_ne.2 c1
    have HV := Lib.hid (show bv = true by rw [hbv, decide_eq_false c1]; rfl)
    clear hbv
    go_enter Tryd.func37, Tryd.ntmps37
    go_wp2
    go_quiet (fail)
    go_wp2
    go_ret
    rw [HV.out]
    exact ⟨rfl, pw_below_drewN (Below.refl _ _) _⟩
end Go.Proofs.YtdhhnkhgmoblhaaDoor.Q
