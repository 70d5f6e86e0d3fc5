/- spec.ValuesOf and impl.ValuesOf by hand: the values of all readings, ascending, each once. -/
import Derived.Test.YtdhhnkhgmoblhaaGreatDoorQhandBetween
import Derived.Test.YtdhhnkhgmoblhaaGreatDoorQpureInsert
import Derived.Test.YtdhhnkhgmoblhaaGreatDoorQlibSortI
namespace Go.Proofs.YtdhhnkhgmoblhaaGreatDoor.Q
open Go.RowKit Go.Proofs.YtdhhnkhgmoblhaaGreatDoorW.PrintWords Go.Proofs.YtdhhnkhgmoblhaaGreatDoorW.PrintLast Go.Proofs.YtdhhnkhgmoblhaaGreatDoorW.PrintMore
open Go.Proofs.YtdhhnkhgmoblhaaGreatDoor.Pure
set_option linter.unusedVariables false
set_option linter.unusedSimpArgs false

def valuesS (s : List SG) (m : List MP) (worn : ByteArray) : List Int × Int := if (readS s m worn).2 = 0 then (insS ((readS s m worn).1.map (sumB s m)), 0) else ([], (readS s m worn).2)
theorem insS_step {α : Type} (f : α → Int) (l : List α) (j : Nat) (h : j < l.length) : insS ((l.take (j + 1)).map f) = insV (insS ((l.take j).map f)) (f l[j]) := by
  unfold insS
  rw [List.take_succ_eq_append_getElem h, List.map_append, List.foldl_append]
  rfl
theorem posV_stop {out : List Int} {v : Int} {q : Nat} (h : 0 < q → ¬ v < out.getD (q - 1) 0) : posV out v q = q := by
  rcases q with _ | k
  · rfl
  · have h' : ¬ v < out.getD k 0 := h (by omega)
    unfold posV
    rw [if_neg h']
theorem posV_down {out : List Int} {v : Int} {q : Nat} (h0 : 0 < q) (h : v < out.getD (q - 1) 0) : posV out v (q - 1) = posV out v q := by
  rcases q with _ | k
  · omega
  · have h' : v < out.getD k 0 := h
    conv => rhs; unfold posV
    rw [if_pos h']
    rfl
theorem insV_build {out : List Int} {v : Int} {p : Nat} (h : posV out v out.length = p) (hn : ¬ (0 < p ∧ out.getD (p - 1) 0 = v)) : insV out v = out.take p ++ [v] ++ out.drop p := by
  unfold insV
  rw [h, if_neg hn]
theorem insV_dup {out : List Int} {v : Int} {p : Nat} (h : posV out v out.length = p) (hn : 0 < p ∧ out.getD (p - 1) 0 = v) : insV out v = out := by
  unfold insV
  rw [h, if_pos hn]

set_option maxRecDepth 20000 in
set_option maxHeartbeats 4000000 in
theorem spec_ValuesOf.callsT (A0 : Option Addr) (c0 : Nat) (s : List SG) (A1 : Option Addr) (c1 : Nat) (m : List MP) (worn : ByteArray) (w : World) (hr0 : Kd.C k76 w A0 s.length s) (hc0 : s.length ≤ c0) (hr1 : Kd.C k79 w A1 m.length m) (hc1 : m.length ≤ c1) (hf : bigR s m worn) :
    Calls Tryz.prog 14 #[.agg #[.slice A0 s.length c0, .slice A1 m.length c1], .string worn] w fun e w' => ∃ v0_ : Value, e = .returned (.tuple #[v0_, .int .i64 (valuesS s m worn).2]) ∧ Kd.R (Kd.int .i64) 2 w' w.heap.size (fun _ => True) v0_ (valuesS s m worn).1 ∧ Below w.heap.size w w' := by
  have HI0 := Lib.hid (isS_new hr0 hr1 (c0_0 := c0) (c0_1 := c1))
  have HB0 := Lib.hid (below_alloc (Below.refl w.heap.size w) (.cells #[.slice A0 s.length c0, .slice A1 m.length c1] 32))
  have HRL := Lib.hid (readS_len' s m worn)
  have HSZ := Lib.hid (readS_size (s := s) (m := m) (worn := worn))
  have HSM := Lib.hid (fun x (hx : x.size ≤ 16) => spec_l03Sum.val s m x hf.1 hf.2.1 hf.2.2.1 hx 2097160 (by omega))
  have HC := Lib.hid (fun (W : World) hI hB => spec_l03Readings.callsT w.heap.size s m worn w W hI hB hf)
  obtain ⟨res, hres⟩ : ∃ res, res = valuesS s m worn := ⟨_, rfl⟩
  rw [← hres]
  unfold valuesS at hres
  obtain ⟨rd, hrd⟩ : ∃ rd, rd = readS s m worn := ⟨_, rfl⟩
  rw [← hrd] at HC HSZ HRL hres
  obtain ⟨l, rc⟩ := rd
  dsimp only at HC HSZ HRL hres
  clear hr0 hr1 hf hrd
  by_cases h0 : rc = 0
  rotate_left
  · have d1 : (rc == 0) = false := beq_eq_false_iff_ne.2 h0
    have d2 : decide (rc = 0) = false := decide_eq_false h0
    have d3 : (rc != 0) = true := by rw [bne, d1]; rfl
    rw [if_neg h0] at hres
    subst hres
    clear h0
    go_enter Tryz.func14, Tryz.ntmps14
    go_wp2_with (first | ((with_reducible refine gate_dst (N := 13) rfl ?_); refine Kd.R_lit (Kd.int .i64) (w0 := w) w.heap.size 2 ?hg (N := 13) ?hd (xs := ([] : List Int)) (inner := []) (ok := fun k => k ≠ w.heap.size) (okp := fun k => k ≠ w.heap.size) ?hr ?hp (fun _ hk => hk) (HI0.out.fresh _ (Nat.le_refl _)) HB0.out HB0.out.size (by simp) ?_; (case hd => rfl); (case hg => rfl); (case hr => first | (go_simp; done) | (go_simp; rfl)); (case hp => exact (Reps.none _ _)); intro v3 w3 ho hb hg_ hnew_; have HO3 := Lib.hid ho; have HB3 := Lib.hid hb; have HI3 := Lib.hid (HI0.out.grown hg_ (by simp)); have HN3 := Lib.hid hnew_; clear ho hb hg_ hnew_) | (go_at_call 21; (with_reducible refine (HC.out _ HI3.out HB3.out).mono ?_); rintro e w4 ⟨v1, rfl, hR, hi, hb, hk⟩; have HRX := Lib.hid hR; have HI4 := Lib.hid hi; have HB4 := Lib.hid hb; have HO4 := Lib.hid (Kd.R_keep HO3.out hk (fun _ hk => hk)); have NE4 := Lib.hid (ne_base HO3.out HN3.out hR); clear hR hi hb hk))
    go_ret2
    exact ⟨_, rfl, Kd.R_mono HO4.out (fun _ _ => trivial), HB4.out⟩
  · subst h0
    rw [if_pos rfl] at hres
    have HRES := Lib.hid hres
    clear hres
    have L501 := HRL.out
    go_enter Tryz.func14, Tryz.ntmps14
    go_wp2_with (first | ((with_reducible refine gate_dst (N := 13) rfl ?_); refine Kd.R_lit (Kd.int .i64) (w0 := w) w.heap.size 2 ?hg (N := 13) ?hd (xs := ([] : List Int)) (inner := []) (ok := fun k => k ≠ w.heap.size) (okp := fun k => k ≠ w.heap.size) ?hr ?hp (fun _ hk => hk) (HI0.out.fresh _ (Nat.le_refl _)) HB0.out HB0.out.size (by simp) ?_; (case hd => rfl); (case hg => rfl); (case hr => first | (go_simp; done) | (go_simp; rfl)); (case hp => exact (Reps.none _ _)); intro v3 w3 ho hb hg_ hnew_; have HO3 := Lib.hid ho; have HB3 := Lib.hid hb; have HI3 := Lib.hid (HI0.out.grown hg_ (by simp)); have HN3 := Lib.hid hnew_; clear ho hb hg_ hnew_) | (go_at_call 21; (with_reducible refine (HC.out _ HI3.out HB3.out).mono ?_); rintro e w4 ⟨v1, rfl, hR, hi, hb, hk⟩; have HRX := Lib.hid hR; have HI4 := Lib.hid hi; have HB4 := Lib.hid hb; have HO4 := Lib.hid (Kd.R_keep HO3.out hk (fun _ hk => hk)); have NE4 := Lib.hid (ne_base HO3.out HN3.out hR); clear hR hi hb hk))
    obtain ⟨AL, cl, eL⟩ := Kd.R_slice HRX.out
    obtain ⟨nl, hnl⟩ : ∃ nl, nl = l.length := ⟨_, rfl⟩
    rw [← hnl] at eL L501
    subst eL
    have HNL := Lib.hid hnl
    clear hnl
    go_loopw [6, 9] (fun v i wr => ∃ j : Nat, j ≤ nl ∧ i = .int .i64 j ∧ RowKit.Hid (Kd.R (Kd.int .i64) 2 wr w.heap.size (fun k => k ≠ w.heap.size) v (insS ((l.take j).map (sumB s m)))) ∧ RowKit.Hid (Kd.R Kd.string 9 wr w3.heap.size (fun k => k ≠ w.heap.size) (.slice AL nl cl) l) ∧ RowKit.Hid (v.ownBlock ≠ (Value.slice AL nl cl).ownBlock) ∧ RowKit.Hid (IsS32 w wr w.heap.size s m) ∧ RowKit.Hid (Below w.heap.size w wr)) (fun _ i _ => nl - (intOf i).toNat)
    case atStart => exact ⟨0, Nat.zero_le _, rfl, Lib.hid (by simpa [insS] using HO4.out), HRX, NE4, HI4, HB4⟩
    case round =>
      clear HO4 HRX NE4 HI4 HB4
      obtain ⟨j, hj, rfl, HR, HL, NE, HI, HB⟩ := hrel
      by_cases hlt : j < nl
      · have hlt2 : (j : Int) < (nl : Int) := by omega
        have hjl : j < l.length := by rw [← HNL.out]; exact hlt
        obtain ⟨ad, ea, hx⟩ := Kd.at_string (Kd.R_reads' HL.out).2.2 (j : Int) (by omega) (by omega)
        cases ea
        rw [Int.toNat_natCast] at hx
        obtain ⟨x, hxx⟩ : ∃ x, x = rdOf ByteArray.empty l (j : Int) := ⟨_, rfl⟩
        rw [← hxx] at hx
        have EX := Lib.hid (show x = l[j] from by rw [hxx]; exact rdOf_get _ _ _ hjl)
        have HFS := Lib.hid (insS_step (sumB s m) l j hjl)
        rw [← EX.out] at HFS
        have HS := Lib.hid (HSM.out x (by rw [EX.out]; exact (HSZ.out _ (List.getElem_mem hjl)).2))
        have HOL := Lib.hid (show (insS ((l.take j).map (sumB s m))).length ≤ 501 from by
          have h1 := insS_len ((l.take j).map (sumB s m))
          rw [List.length_map, List.length_take] at h1
          have := HRL.out
          omega)
        obtain ⟨out, hout⟩ : ∃ out, out = insS ((l.take j).map (sumB s m)) := ⟨_, rfl⟩
        obtain ⟨own, hown⟩ : ∃ own, own = sumB s m x := ⟨_, rfl⟩
        rw [← hown] at HS HFS
        rw [← hout] at HR HFS HOL
        clear hxx hown hout
        obtain ⟨AO, co, eO⟩ := Kd.R_slice HR.out
        obtain ⟨no, hno⟩ : ∃ no, no = out.length := ⟨_, rfl⟩
        rw [← hno] at eO HOL
        subst eO
        have HNO := Lib.hid hno
        have HCO := Lib.hid (show no ≤ co from (Kd.R_reads' HR.out).2.1)
        have hno501 : no ≤ 501 := HOL.out
        clear hno
        go_wp2_with (first | (go_at_call 23; (with_reducible refine (spec_l03Sum.calls 2097160 w.heap.size s m x own w _ HI.out HB.out HS.out).mono ?_); rintro e w5 ⟨rfl, hi5, hb5, hk5⟩; have HI5 := Lib.hid hi5; have HB5 := Lib.hid hb5; have HR5 := Lib.hid (Kd.R_keep HR.out hk5 (fun _ hk => hk)); have HL5 := Lib.hid (Kd.R_keep HL.out hk5 (fun _ hk => hk)); clear hi5 hb5 hk5 hx))
        go_loopw [11] (fun a wr => ∃ q : Nat, q ≤ no ∧ a = .int .i64 q ∧ wr = w5 ∧ RowKit.Hid (posV out own q = posV out own no)) (fun a _ => (intOf a).toNat)
        case atStart => exact ⟨no, Nat.le_refl _, rfl, rfl, Lib.hid rfl⟩
        case round =>
          obtain ⟨q, hq, rfl, rfl, HQ⟩ := hrel
          have HTK := Lib.hid (fun (W : World) (h : Kd.R (Kd.int .i64) 2 W w.heap.size (fun k => k ≠ w.heap.size) (.slice AO no co) out) => show Kd.C (Kd.int .i64) W AO q (out.take q) from by
            have h1 := (Kd.R_reads' (Kd.R_take (m := q) h (by rw [← HNO.out]; omega))).2.2
            rw [List.length_take_of_le (by rw [← HNO.out]; omega)] at h1
            exact h1)
          have HDR := Lib.hid (fun (W : World) (h : Kd.R (Kd.int .i64) 2 W w.heap.size (fun k => k ≠ w.heap.size) (.slice AO no co) out) => show Kd.C (Kd.int .i64) W (if co = q then AO else AO.map (·.add q)) (no - q) (out.drop q) from by
            have h1 := Kd.C_drop (k := Kd.int .i64) (m := q) (c := co) (A := AO) (xs := out) (w := W) (Kd.R_reads' h).2.2 (by rw [← HNO.out]; omega) (by rw [← HNO.out]; exact HCO.out)
            rw [List.length_drop, ← HNO.out] at h1
            have h2 : Kd.C (Kd.int .i64) W (if co = q then AO else AO.map (·.add (q * 1))) (no - q) (out.drop q) := h1
            rw [Nat.mul_one] at h2
            exact h2)
          have HA1 := Lib.hid (show (([] : List Int).length + q) * 8 ≤ 140737488355328 from by simp; omega)
          have HA2 := Lib.hid (show ((out.take q).length + 1) * 8 ≤ 140737488355328 from by rw [List.length_take]; omega)
          have HA3 := Lib.hid (show ((out.take q ++ [own]).length + (no - q)) * 8 ≤ 140737488355328 from by rw [List.length_append, List.length_take, List.length_singleton]; omega)
          have hqc : q ≤ co := by have := HCO.out; omega
          by_cases hq0 : 0 < q
          rotate_left
          · have eq0 : ¬ (0 : Int) < (q : Int) := by omega
            have HIV := Lib.hid (insV_build (out := out) (v := own) (p := q) (by rw [← HNO.out, ← HQ.out]; exact posV_stop (fun h => absurd h hq0)) (fun h => hq0 h.1))
            go_wp2_with (first | ((with_reducible refine gate_dst (N := 60) rfl ?_); refine Kd.R_lit (Kd.int .i64) (w0 := w) w.heap.size 2 ?hg (N := 60) ?hd (xs := ([] : List Int)) (inner := []) (ok := fun k => k ≠ w.heap.size) (okp := fun k => k ≠ w.heap.size) ?hr ?hp (fun _ hk => hk) (HI5.out.fresh _ (Nat.le_refl _)) HB5.out HB5.out.size (by simp) ?_; (case hd => rfl); (case hg => rfl); (case hr => first | (go_simp; done) | (go_simp; rfl)); (case hp => exact (Reps.none _ _)); intro v6 w6 ho hb hg_ hnew_; have HO6 := Lib.hid ho; have HB6 := Lib.hid hb; have HI6 := Lib.hid (HI5.out.grown hg_ (by simp)); have NR6 := Lib.hid (ne_new HR5.out hnew_); have NL6 := Lib.hid (ne_new HL5.out hnew_); have HR6 := Lib.hid (Kd.R_grown HR5.out hg_ (fun _ _ => by simp)); have HL6 := Lib.hid (Kd.R_grown HL5.out hg_ (fun _ _ => by simp)); clear ho hb hg_ hnew_) | ((with_reducible refine gate_builtin (b := .append) (xs := #[.tmp 60, .tmp 63]) rfl ?_); at_builtin; refine Kd.R_append_row (Value.int .i64) 0 (h1 := fun _ => rfl) (w0 := w) w.heap.size rfl (.tmp 60) (.tmp 63) 39 2 (.int .i64 0) 8 rfl Tryz.underlying39 info2 rfl (by omega) v6 [] (out.take q) _ q _ (fun k => k ≠ w.heap.size) rfl rfl ?aF ?aO ?aR ?aB ?aS ?aL ?_; (case aF => exact HI6.out.fresh); (case aO => exact HO6.out); (case aR => exact HTK.out _ HR6.out); (case aB => exact HB6.out); (case aS => exact HB6.out.size); (case aL => exact HA1.out); intro v7 w7 ho hb hg hat; have HO7 := Lib.hid ho; have HB7 := Lib.hid hb; have HR7 := Lib.hid (Kd.R_grown1 HR6.out rfl hg (Ne.symm NR6.out)); have HL7 := Lib.hid (Kd.R_grown1 HL6.out rfl hg (Ne.symm NL6.out)); have NR7 := Lib.hid (ne_after HR6.out (Ne.symm NR6.out) hat); have NL7 := Lib.hid (ne_after HL6.out (Ne.symm NL6.out) hat); have HI7 := Lib.hid (HI6.out.grown hg (HI6.out.own_ne HO6.out (by decide))); clear ho hb hg hat) | ((with_reducible refine gate_builtin (b := .append) (xs := #[.tmp 64, .tmp 66]) rfl ?_); at_builtin; refine Kd.R_append (Kd.int .i64) (w0 := w) w.heap.size rfl (.tmp 64) (.tmp 66) 39 2 (.int .i64 0) 8 rfl Tryz.underlying39 info2 rfl (by decide) (by omega) v7 (out.take q) own [.int .i64 own] (fun k => k ≠ w.heap.size) (fun _ => False) ?hS ?hX ?aP (fun _ hk => hk.elim) ?aF ?aO ?aB ?aS ?aL ?_; (case hS => rfl); (case hX => first | rfl | (go_simp; done) | (simp [World.alloc]; done) | (go_simp; rfl)); (case aP => exact rfl); (case aF => exact HI7.out.fresh); (case aO => exact HO7.out); (case aB => exact HB7.out); (case aS => exact HB7.out.size); (case aL => exact HA2.out); intro v8 w8 ho hb hg hat; have HO8 := Lib.hid ho; have HB8 := Lib.hid hb; have HR8 := Lib.hid (Kd.R_grown1 HR7.out rfl hg NR7.out); have HL8 := Lib.hid (Kd.R_grown1 HL7.out rfl hg NL7.out); have NR8 := Lib.hid (ne_after HR7.out NR7.out hat); have NL8 := Lib.hid (ne_after HL7.out NL7.out hat); have HI8 := Lib.hid (HI7.out.grown hg (HI7.out.own_ne HO7.out (by decide))); clear ho hb hg hat) | ((with_reducible refine gate_builtin (b := .append) (xs := #[.tmp 68, .tmp 71]) rfl ?_); at_builtin; refine Kd.R_append_row (Value.int .i64) 0 (h1 := fun _ => rfl) (w0 := w) w.heap.size rfl (.tmp 68) (.tmp 71) 39 2 (.int .i64 0) 8 rfl Tryz.underlying39 info2 rfl (by omega) v8 (out.take q ++ [own]) (out.drop q) _ (no - q) _ (fun k => k ≠ w.heap.size) rfl rfl ?aF ?aO ?aR ?aB ?aS ?aL ?_; (case aF => exact HI8.out.fresh); (case aO => exact HO8.out); (case aR => exact HDR.out _ HR8.out); (case aB => exact HB8.out); (case aS => exact HB8.out.size); (case aL => exact HA3.out); intro v9 w9 ho hb hg hat; have HO9 := Lib.hid ho; have HB9 := Lib.hid hb; have HL9 := Lib.hid (Kd.R_grown1 HL8.out rfl hg NL8.out); have NL9 := Lib.hid (ne_after HL8.out NL8.out hat); have HI9 := Lib.hid (HI8.out.grown hg (HI8.out.own_ne HO8.out (by decide))); clear ho hb hg hat))
            go_roundw
            case measure => simp only [intOf]; omega
            case rel => exact ⟨j + 1, by omega, by go_num, Lib.hid (by rw [HFS.out, HIV.out]; exact HO9.out), HL9, NL9, HI9, HB9⟩
          · have eq0 : (0 : Int) < (q : Int) := by omega
            obtain ⟨ad2, ea2, hy⟩ := Kd.at_int (Kd.R_reads' HR5.out).2.2 ((q : Int) - 1) (by omega) (by have := HNO.out; omega)
            cases ea2
            rw [show ((q : Int) - 1).toNat = q - 1 by omega] at hy
            obtain ⟨y, hyy⟩ : ∃ y, y = rd out ((q : Int) - 1) := ⟨_, rfl⟩
            rw [← hyy] at hy
            have EY := Lib.hid (show out.getD (q - 1) 0 = y from by rw [hyy]; unfold rd; congr 1; omega)
            clear hyy
            by_cases c1 : own < y
            · have HQ2 := Lib.hid (show posV out own (q - 1) = posV out own no from by rw [← HQ.out]; exact posV_down hq0 (by rw [EY.out]; exact c1))
              go_wp2
              go_roundw
              case measure => simp only [intOf]; omega
              case rel => exact ⟨q - 1, by omega, by go_num, trivial, HQ2⟩
            · by_cases c2 : y = own
              · have HIV := Lib.hid (insV_dup (out := out) (v := own) (p := q) (by rw [← HNO.out, ← HQ.out]; exact posV_stop (fun h => by rw [EY.out]; exact c1)) ⟨hq0, by rw [EY.out]; exact c2⟩)
                go_wp2
                go_roundw
                case measure => simp only [intOf]; omega
                case rel => exact ⟨j + 1, by omega, by go_num, Lib.hid (by rw [HFS.out, HIV.out]; exact HR5.out), HL5, NE, HI5, HB5⟩
              · have HIV := Lib.hid (insV_build (out := out) (v := own) (p := q) (by rw [← HNO.out, ← HQ.out]; exact posV_stop (fun h => by rw [EY.out]; exact c1)) (fun h => c2 (by rw [← EY.out]; exact h.2)))
                go_wp2_with (first | ((with_reducible refine gate_dst (N := 60) rfl ?_); refine Kd.R_lit (Kd.int .i64) (w0 := w) w.heap.size 2 ?hg (N := 60) ?hd (xs := ([] : List Int)) (inner := []) (ok := fun k => k ≠ w.heap.size) (okp := fun k => k ≠ w.heap.size) ?hr ?hp (fun _ hk => hk) (HI5.out.fresh _ (Nat.le_refl _)) HB5.out HB5.out.size (by simp) ?_; (case hd => rfl); (case hg => rfl); (case hr => first | (go_simp; done) | (go_simp; rfl)); (case hp => exact (Reps.none _ _)); intro v6 w6 ho hb hg_ hnew_; have HO6 := Lib.hid ho; have HB6 := Lib.hid hb; have HI6 := Lib.hid (HI5.out.grown hg_ (by simp)); have NR6 := Lib.hid (ne_new HR5.out hnew_); have NL6 := Lib.hid (ne_new HL5.out hnew_); have HR6 := Lib.hid (Kd.R_grown HR5.out hg_ (fun _ _ => by simp)); have HL6 := Lib.hid (Kd.R_grown HL5.out hg_ (fun _ _ => by simp)); clear ho hb hg_ hnew_) | ((with_reducible refine gate_builtin (b := .append) (xs := #[.tmp 60, .tmp 63]) rfl ?_); at_builtin; refine Kd.R_append_row (Value.int .i64) 0 (h1 := fun _ => rfl) (w0 := w) w.heap.size rfl (.tmp 60) (.tmp 63) 39 2 (.int .i64 0) 8 rfl Tryz.underlying39 info2 rfl (by omega) v6 [] (out.take q) _ q _ (fun k => k ≠ w.heap.size) rfl rfl ?aF ?aO ?aR ?aB ?aS ?aL ?_; (case aF => exact HI6.out.fresh); (case aO => exact HO6.out); (case aR => exact HTK.out _ HR6.out); (case aB => exact HB6.out); (case aS => exact HB6.out.size); (case aL => exact HA1.out); intro v7 w7 ho hb hg hat; have HO7 := Lib.hid ho; have HB7 := Lib.hid hb; have HR7 := Lib.hid (Kd.R_grown1 HR6.out rfl hg (Ne.symm NR6.out)); have HL7 := Lib.hid (Kd.R_grown1 HL6.out rfl hg (Ne.symm NL6.out)); have NR7 := Lib.hid (ne_after HR6.out (Ne.symm NR6.out) hat); have NL7 := Lib.hid (ne_after HL6.out (Ne.symm NL6.out) hat); have HI7 := Lib.hid (HI6.out.grown hg (HI6.out.own_ne HO6.out (by decide))); clear ho hb hg hat) | ((with_reducible refine gate_builtin (b := .append) (xs := #[.tmp 64, .tmp 66]) rfl ?_); at_builtin; refine Kd.R_append (Kd.int .i64) (w0 := w) w.heap.size rfl (.tmp 64) (.tmp 66) 39 2 (.int .i64 0) 8 rfl Tryz.underlying39 info2 rfl (by decide) (by omega) v7 (out.take q) own [.int .i64 own] (fun k => k ≠ w.heap.size) (fun _ => False) ?hS ?hX ?aP (fun _ hk => hk.elim) ?aF ?aO ?aB ?aS ?aL ?_; (case hS => rfl); (case hX => first | rfl | (go_simp; done) | (simp [World.alloc]; done) | (go_simp; rfl)); (case aP => exact rfl); (case aF => exact HI7.out.fresh); (case aO => exact HO7.out); (case aB => exact HB7.out); (case aS => exact HB7.out.size); (case aL => exact HA2.out); intro v8 w8 ho hb hg hat; have HO8 := Lib.hid ho; have HB8 := Lib.hid hb; have HR8 := Lib.hid (Kd.R_grown1 HR7.out rfl hg NR7.out); have HL8 := Lib.hid (Kd.R_grown1 HL7.out rfl hg NL7.out); have NR8 := Lib.hid (ne_after HR7.out NR7.out hat); have NL8 := Lib.hid (ne_after HL7.out NL7.out hat); have HI8 := Lib.hid (HI7.out.grown hg (HI7.out.own_ne HO7.out (by decide))); clear ho hb hg hat) | ((with_reducible refine gate_builtin (b := .append) (xs := #[.tmp 68, .tmp 71]) rfl ?_); at_builtin; refine Kd.R_append_row (Value.int .i64) 0 (h1 := fun _ => rfl) (w0 := w) w.heap.size rfl (.tmp 68) (.tmp 71) 39 2 (.int .i64 0) 8 rfl Tryz.underlying39 info2 rfl (by omega) v8 (out.take q ++ [own]) (out.drop q) _ (no - q) _ (fun k => k ≠ w.heap.size) rfl rfl ?aF ?aO ?aR ?aB ?aS ?aL ?_; (case aF => exact HI8.out.fresh); (case aO => exact HO8.out); (case aR => exact HDR.out _ HR8.out); (case aB => exact HB8.out); (case aS => exact HB8.out.size); (case aL => exact HA3.out); intro v9 w9 ho hb hg hat; have HO9 := Lib.hid ho; have HB9 := Lib.hid hb; have HL9 := Lib.hid (Kd.R_grown1 HL8.out rfl hg NL8.out); have NL9 := Lib.hid (ne_after HL8.out NL8.out hat); have HI9 := Lib.hid (HI8.out.grown hg (HI8.out.own_ne HO8.out (by decide))); clear ho hb hg hat))
                go_roundw
                case measure => simp only [intOf]; omega
                case rel => exact ⟨j + 1, by omega, by go_num, Lib.hid (by rw [HFS.out, HIV.out]; exact HO9.out), HL9, NL9, HI9, HB9⟩
      · have hlt2 : ¬ (j : Int) < (nl : Int) := by omega
        have HE := Lib.hid (show insS ((l.take j).map (sumB s m)) = res.1 from by rw [HRES.out, List.take_of_length_le (by have := HNL.out; omega)])
        have HE2 := Lib.hid (show res.2 = 0 from by rw [HRES.out])
        go_wp2
        go_ret2
        rw [HE2.out, ← HE.out]
        exact ⟨_, rfl, Kd.R_mono HR.out (fun _ _ => trivial), HB.out⟩

theorem below_grown {α : Type} {d : Kd α} {e : Nat} {ok : Nat → Prop} {W1 W W2 : World} {v : Value} {xs : List α} (hB : Below W1.heap.size W1 W) (hR : d.R e W W1.heap.size ok v xs) (hg : W.grownBy W2 v.ownBlock) : Below W1.heap.size W1 W2 :=
  hB.trans ⟨hg.os, hg.tape, hg.output, hg.size, fun k hk => hg.block k (Nat.lt_of_lt_of_le hk hB.size) (by intro h; have := ((Kd.R_bound hR).1 k h.symm).2.1; omega)⟩
set_option maxRecDepth 20000 in
set_option maxHeartbeats 4000000 in
theorem impl_ValuesOf.callsT (A0 : Option Addr) (c0 : Nat) (s : List SG) (A1 : Option Addr) (c1 : Nat) (m : List MP) (worn : ByteArray) (w : World) (hG : Glob w) (hr0 : Kd.C k76 w A0 s.length s) (hc0 : s.length ≤ c0) (hr1 : Kd.C k79 w A1 m.length m) (hc1 : m.length ≤ c1) (hf : bigR s m worn) :
    Calls Tryz.prog 15 #[.agg #[.slice A0 s.length c0, .slice A1 m.length c1], .string worn] w fun e w' => ∃ v0_ : Value, e = .returned (.tuple #[v0_, .int .i64 (valuesS s m worn).2]) ∧ Kd.R (Kd.int .i64) 2 w' w.heap.size (fun _ => True) v0_ (valuesS s m worn).1 ∧ Below w.heap.size w w' := by
  have HB01 := Lib.hid (below_alloc (Below.refl w.heap.size w) (.cells #[.slice A0 s.length c0, .slice A1 m.length c1] 32))
  have K0 := Lib.hid (heap_alloc_new w (.cells #[.slice A0 s.length c0, .slice A1 m.length c1] 32))
  have HRL := Lib.hid (readI_len s m worn)
  have HSZ := Lib.hid (readI_size (s := s) (m := m) (worn := worn))
  have HC := Lib.hid (impl_readings.callsT A0 c0 s A1 c1 m worn (w.alloc (.cells #[.slice A0 s.length c0, .slice A1 m.length c1] 32)) (hG.step HB01.out) (Kd.C_below hr0 HB01.out) hc0 (Kd.C_below hr1 HB01.out) hc1 hf)
  have HR0 := Lib.hid hr0
  have HR1 := Lib.hid hr1
  have HSAME := Lib.hid (readings_same s m worn)
  obtain ⟨res, hres⟩ : ∃ res, res = valuesS s m worn := ⟨_, rfl⟩
  rw [← hres]
  unfold valuesS at hres
  rw [HSAME.out] at hres
  obtain ⟨ri, hri⟩ : ∃ ri, ri = readI s m worn := ⟨_, rfl⟩
  rw [← hri] at HC HSZ HRL hres
  obtain ⟨l, rc⟩ := ri
  dsimp only at HC HSZ HRL hres
  have HF := Lib.hid hf
  have z0 : (w.alloc (.cells #[.slice A0 s.length c0, .slice A1 m.length c1] 32)).cell? ⟨w.heap.size, 0, none⟩ = some (.slice A0 s.length c0) := (blk_cell K0.out 0).trans rfl
  have z1 : (w.alloc (.cells #[.slice A0 s.length c0, .slice A1 m.length c1] 32)).cell? ⟨w.heap.size, 1, none⟩ = some (.slice A1 m.length c1) := (blk_cell K0.out 1).trans rfl
  clear hG hr0 hr1 hf hri HSAME
  by_cases h0 : rc = 0
  rotate_left
  · have d1 : (rc == 0) = false := beq_eq_false_iff_ne.2 h0
    have d2 : decide (rc = 0) = false := decide_eq_false h0
    have d3 : (rc != 0) = true := by rw [bne, d1]; rfl
    rw [if_neg h0] at hres
    subst hres
    clear h0
    go_enter Tryz.func15, Tryz.ntmps15
    go_wp2_with (go_at_call 26; (with_reducible refine HC.out.mono ?_); rintro e w4 ⟨v1, rfl, hR, hb⟩; have HRX := Lib.hid hR; have HB4 := Lib.hid hb; clear hR hb)
    go_ret2
    exact ⟨_, rfl, Kd.R_nil _ _ _ _ _, below_step HB01.out HB4.out⟩
  · subst h0
    rw [if_pos rfl, if_pos rfl] at hres
    have HRES := Lib.hid hres
    clear hres
    have L501 := HRL.out rfl
    have HRL2 := Lib.hid (HRL.out rfl)
    clear HRL
    obtain ⟨nl, hnl⟩ : ∃ nl, nl = l.length := ⟨_, rfl⟩
    rw [← hnl] at L501
    have HNL := Lib.hid hnl
    clear hnl
    go_enter Tryz.func15, Tryz.ntmps15
    go_wp2_with (first | (go_at_call 26; (with_reducible refine HC.out.mono ?_); rintro e w4 ⟨v1, rfl, hR, hb⟩; obtain ⟨AL, cl, eL⟩ := Kd.R_slice hR; rw [← HNL.out] at eL; subst eL; have HRX := Lib.hid hR; have HB4 := Lib.hid hb; clear hR hb) | ((with_reducible refine gate_dst (N := 20) rfl ?_); refine Kd.R_lit (Kd.int .i64) (w0 := (w.alloc (.cells #[.slice A0 s.length c0, .slice A1 m.length c1] 32))) (w.alloc (.cells #[.slice A0 s.length c0, .slice A1 m.length c1] 32)).heap.size 2 ?hg (N := 20) ?hd (xs := ([] : List Int)) (inner := []) (ok := fun _ => True) (okp := fun _ => True) ?hr ?hp (fun _ hk => hk) trivial HB4.out HB4.out.size (by simp) ?_; (case hd => rfl); (case hg => rfl); (case hr => first | (go_simp; done) | (go_simp; rfl)); (case hp => exact (Reps.none _ _)); intro v6 w6 ho hb hg_ hnew_; have HO6 := Lib.hid ho; have HB6 := Lib.hid hb; have NE6 := Lib.hid (Ne.symm (ne_new HRX.out hnew_)); have HL6 := Lib.hid (Kd.R_grown HRX.out hg_ (fun _ _ => by simp)); clear ho hb hg_ hnew_))
    go_loopw [8, 23] (fun v i wr => ∃ j : Nat, j ≤ nl ∧ i = .int .i64 j ∧ RowKit.Hid (Kd.R (Kd.int .i64) 2 wr (w.alloc (.cells #[.slice A0 s.length c0, .slice A1 m.length c1] 32)).heap.size (fun _ => True) v ((l.take j).map (sumB s m))) ∧ RowKit.Hid (Kd.R Kd.string 9 wr (w.alloc (.cells #[.slice A0 s.length c0, .slice A1 m.length c1] 32)).heap.size (fun _ => True) (.slice AL nl cl) l) ∧ RowKit.Hid (v.ownBlock ≠ (Value.slice AL nl cl).ownBlock) ∧ RowKit.Hid (Below (w.alloc (.cells #[.slice A0 s.length c0, .slice A1 m.length c1] 32)).heap.size (w.alloc (.cells #[.slice A0 s.length c0, .slice A1 m.length c1] 32)) wr)) (fun _ i _ => nl - (intOf i).toNat)
    case atStart => exact ⟨0, Nat.zero_le _, rfl, Lib.hid (by simpa using HO6.out), HL6, NE6, HB6⟩
    case round =>
      clear HO6 HRX NE6 HL6 HB4 HB6
      obtain ⟨j, hj, rfl, HR, HL, NE, HB⟩ := hrel
      by_cases hlt : j < nl
      · have hlt2 : (j : Int) < (nl : Int) := by omega
        have hjl : j < l.length := by rw [← HNL.out]; exact hlt
        obtain ⟨ad, ea, hx⟩ := Kd.at_string (Kd.R_reads' HL.out).2.2 (j : Int) (by omega) (by omega)
        cases ea
        rw [Int.toNat_natCast] at hx
        obtain ⟨x, hxx⟩ : ∃ x, x = rdOf ByteArray.empty l (j : Int) := ⟨_, rfl⟩
        rw [← hxx] at hx
        have EX := Lib.hid (show x = l[j] from by rw [hxx]; exact rdOf_get _ _ _ hjl)
        have HFS := Lib.hid (show (l.take (j + 1)).map (sumB s m) = (l.take j).map (sumB s m) ++ [sumB s m x] from by rw [List.take_succ_eq_append_getElem hjl, List.map_append, EX.out]; rfl)
        have h16 : x.size ≤ 16 := by rw [EX.out]; exact (HSZ.out _ (List.getElem_mem hjl)).2
        have HSP := Lib.hid (impl_System_split.val 1048577 s m x HF.out.1 HF.out.2.1 (by have := HF.out.1; omega) (by have := HF.out.2.1; omega) HF.out.2.2.1 h16 1048700 (by omega))
        have HSM := Lib.hid (impl_sum_split s m x h16 2097160 (by omega))
        obtain ⟨ps, hps⟩ : ∃ ps, ps = partsT s m x := ⟨_, rfl⟩
        obtain ⟨sv, hsv⟩ : ∃ sv, sv = sumB s m x := ⟨_, rfl⟩
        rw [← hps] at HSP HSM
        rw [← hsv] at HSM HFS
        clear hps hsv hxx h16
        have HLA := Lib.hid (show (((l.take j).map (sumB s m)).length + 1) * 8 ≤ 140737488355328 from by
          rw [List.length_map, List.length_take]; have := HRL2.out; omega)
        have z0 : wr.cell? ⟨w.heap.size, 0, none⟩ = some (.slice A0 s.length c0) := (blk_cell (blk_below K0.out HB.out) 0).trans rfl
        have z1 : wr.cell? ⟨w.heap.size, 1, none⟩ = some (.slice A1 m.length c1) := (blk_cell (blk_below K0.out HB.out) 1).trans rfl
        go_wp2_with (first | (go_at_call 31; (with_reducible refine (impl_System_split.calls 1048700 A0 c0 s A1 c1 m x ps _ (Kd.C_below HR0.out (below_step HB01.out HB.out)) hc0 (Kd.C_below HR1.out (below_step HB01.out HB.out)) hc1 HSP.out).mono ?_); rintro e w7 ⟨v2, rfl, hR, hb⟩; obtain ⟨A2, c2, eP⟩ := Kd.R_slice hR; subst eP; have HP := Lib.hid hR; have HR7 := Lib.hid (Kd.R_below HR.out hb); have HL7 := Lib.hid (Kd.R_below HL.out hb); have HB7 := Lib.hid (below_step HB.out hb); clear hR hb) | (go_at_call 30; (with_reducible refine (impl_sum.calls 2097160 A2 c2 ps sv _ (Kd.R_reads' HP.out).2.2 (Kd.R_reads' HP.out).2.1 HSM.out).mono ?_); rintro e w8 ⟨rfl, hb⟩; have HR8 := Lib.hid (Kd.R_below HR7.out hb); have HL8 := Lib.hid (Kd.R_below HL7.out hb); have HB8 := Lib.hid (below_step HB7.out hb); clear hb) | ((with_reducible refine gate_builtin (b := .append) (xs := #[.tmp 27, .tmp 32]) rfl ?_); at_builtin; refine Kd.R_append (Kd.int .i64) (w0 := (w.alloc (.cells #[.slice A0 s.length c0, .slice A1 m.length c1] 32))) (w.alloc (.cells #[.slice A0 s.length c0, .slice A1 m.length c1] 32)).heap.size rfl (.tmp 27) (.tmp 32) 39 2 (.int .i64 0) 8 rfl Tryz.underlying39 info2 rfl (by decide) (by omega) u8 ((l.take j).map (sumB s m)) sv [.int .i64 sv] (fun _ => True) (fun _ => False) ?hS ?hX ?aP (fun _ hk => hk.elim) ?aF ?aO ?aB ?aS ?aL ?_; (case hS => rfl); (case hX => first | rfl | (go_simp; done) | (simp [World.alloc]; done) | (go_simp; rfl)); (case aP => exact rfl); (case aF => exact fun _ _ => trivial); (case aO => exact HR8.out); (case aB => exact HB8.out); (case aS => exact HB8.out.size); (case aL => exact HLA.out); intro v9 w9 ho hb hg hat; have HR9 := Lib.hid ho; have HB9 := Lib.hid hb; have HL9 := Lib.hid (Kd.R_grown1 HL8.out rfl hg NE.out); have NE9 := Lib.hid (ne_after HL8.out NE.out hat); clear ho hb hg hat))
        go_roundw
        case measure => simp only [intOf]; omega
        case rel => exact ⟨j + 1, by omega, by go_num, Lib.hid (by rw [HFS.out]; exact HR9.out), HL9, NE9, HB9⟩
      · have hlt2 : ¬ (j : Int) < (nl : Int) := by omega
        have HE := Lib.hid (show (l.take j).map (sumB s m) = l.map (sumB s m) from by rw [List.take_of_length_le (by have := HNL.out; omega)])
        rw [HE.out] at HR
        have HLN := Lib.hid (show (l.map (sumB s m)).length ≤ 1048576 from by rw [List.length_map]; have := HRL2.out; omega)
        have HE1 := Lib.hid (show Go.Lib.compact (sortI (l.map (sumB s m))) = res.1 from by rw [HRES.out]; exact (insS_compact _).symm)
        have HE2 := Lib.hid (show res.2 = 0 from by rw [HRES.out])
        go_wp2_with (first | (go_at_call 37; (with_reducible refine (slices_Sort_int64.callsV _ _ u8 _ _ HR.out HLN.out).mono ?_); rintro e w7 ⟨rfl, hR, hg⟩; have HB7 := Lib.hid (below_grown HB.out HR.out hg); have HR7 := Lib.hid hR; clear hR hg) | (go_at_call 38; (with_reducible refine (slices_Compact_int64.callsV _ _ u8 _ _ HR7.out (by rw [sortI_len]; exact HLN.out)).mono ?_); rintro e w8 ⟨u, rfl, hR, hg⟩; have HB8 := Lib.hid (below_grown HB7.out HR7.out hg); have HR8 := Lib.hid hR; clear hR hg))
        go_ret2
        rw [HE2.out, ← HE1.out]
        exact ⟨_, rfl, Kd.R_lower HR8.out HB01.out.size, below_step HB01.out HB8.out⟩
end Go.Proofs.YtdhhnkhgmoblhaaGreatDoor.Q
