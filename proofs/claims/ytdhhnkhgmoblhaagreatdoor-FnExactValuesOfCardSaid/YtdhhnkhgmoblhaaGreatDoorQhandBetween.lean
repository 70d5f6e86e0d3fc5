/- spec.ReadingsBetween and impl.ReadingsBetween by hand: the readings whose values lie between two bounds. -/
import Derived.Test.YtdhhnkhgmoblhaaGreatDoorQhandReadings
import Derived.Test.YtdhhnkhgmoblhaaGreatDoorQRead
import Derived.Test.YtdhhnkhgmoblhaaGreatDoorQpureSum
import Derived.Test.YtdhhnkhgmoblhaaGreatDoorQimplwithin
import Derived.Test.YtdhhnkhgmoblhaaGreatDoorQspecl00In
namespace Go.Proofs.YtdhhnkhgmoblhaaGreatDoor.Q
open Go.RowKit Go.Proofs.YtdhhnkhgmoblhaaGreatDoorW.PrintWords Go.Proofs.YtdhhnkhgmoblhaaGreatDoorW.PrintLast Go.Proofs.YtdhhnkhgmoblhaaGreatDoorW.PrintMore
open Go.Proofs.YtdhhnkhgmoblhaaGreatDoor.Pure
set_option linter.unusedVariables false
set_option linter.unusedSimpArgs false

def inB (lo hi v : Int) : Bool := decide (lo ≤ v) && decide (v ≤ hi)
def betweenS (s : List SG) (m : List MP) (worn : ByteArray) (lo hi : Int) : List ByteArray × Int := if (readS s m worn).2 = 0 then ((readS s m worn).1.filter (fun x => inB lo hi (sumB s m x)), 0) else ([], (readS s m worn).2)
theorem sortB_mem {l : List ByteArray} {x : ByteArray} (h : x ∈ sortB l) : x ∈ l := by
  unfold sortB at h
  obtain ⟨b, hb, rfl⟩ := List.mem_map.1 h
  have h2 := (List.mergeSort_perm _ _).mem_iff.1 hb
  unfold bytesL at h2
  obtain ⟨y, hy, rfl⟩ := List.mem_map.1 h2
  exact hy
theorem outI_size {s : List SG} {m : List MP} {worn : ByteArray} {x : ByteArray} (h : x ∈ outI s m worn) : x.size = worn.size := by
  unfold outI at h
  have := sortB_mem h
  exact prodF_size _ _ _ (Nat.le_refl _) x (List.mem_filter.1 this).1
theorem readI_size {s : List SG} {m : List MP} {worn : ByteArray} : ∀ x ∈ (readI s m worn).1, x.size = worn.size ∧ x.size ≤ 16 := by
  intro x hx
  unfold readI at hx
  split at hx
  · split at hx
    · rename_i h16
      split at hx
      · have := outI_size hx
        exact ⟨this, by omega⟩
      · simp at hx
    · simp at hx
  · simp at hx
theorem readS_size {s : List SG} {m : List MP} {worn : ByteArray} : ∀ x ∈ (readS s m worn).1, x.size = worn.size ∧ x.size ≤ 16 := by
  intro x hx
  rw [readings_same] at hx
  dsimp only at hx
  split at hx
  · exact readI_size x hx
  · simp at hx
theorem readS_len' (s : List SG) (m : List MP) (t : ByteArray) : (readS s m t).1.length ≤ 501 := by
  unfold readS
  split
  · split
    · split
      · split
        · split
          · exact fromF_len _ _ _ _ _ _ (Nat.zero_le _)
          · exact Nat.zero_le _
        · exact Nat.zero_le _
      · exact Nat.zero_le _
    · exact Nat.zero_le _
  · exact Nat.zero_le _
theorem readI_len (s : List SG) (m : List MP) (t : ByteArray) (h : (readI s m t).2 = 0) : (readI s m t).1.length ≤ 501 := by
  have := readS_len' s m t
  rw [readings_same, if_pos h] at this
  exact this
theorem in_f (lo hi v : Int) : spec_l00In.f v lo hi = some (inB lo hi v) := by
  unfold spec_l00In.f inB
  by_cases h : v ≥ lo
  · rw [if_pos h, decide_eq_true (show lo ≤ v from h), Bool.true_and]
  · rw [if_neg h, decide_eq_false (show ¬ lo ≤ v from h), Bool.false_and]
theorem within_f (lo hi v : Int) : impl_within.f v lo hi = some (inB lo hi v) := by
  unfold impl_within.f inB
  by_cases h : lo ≤ v
  · rw [if_pos h, decide_eq_true h, Bool.true_and]
  · rw [if_neg h, decide_eq_false h, Bool.false_and]

theorem ne_base {α β : Type} {d : Kd α} {d2 : Kd β} {e e2 base C : Nat} {ok ok2 : Nat → Prop} {W W2 : World} {v u : Value} {xs : List α} {ys : List β} (h : d.R e W base ok v xs) (hn : ∃ b, v.ownBlock = some b ∧ C ≤ b) (h2 : d2.R e2 W2 W.heap.size ok2 u ys) : v.ownBlock ≠ u.ownBlock := by
  obtain ⟨b, h1, _⟩ := hn
  have h3 := ((Kd.R_bound h).1 b h1).2.2.1
  rw [h1]
  intro he
  have := ((Kd.R_bound h2).1 b he.symm).2.1
  omega
theorem row_blk {α : Type} {d : Kd α} {e base b : Nat} {W : World} {ad : Addr} {n c : Nat} {l : List α} (h : d.R e W base (fun k => k ≠ b) (.slice (some ad) n c) l) : ad.block ≠ b := h.1 ad.block rfl
theorem filter_step {α : Type} (p : α → Bool) (l : List α) (j : Nat) (h : j < l.length) : (l.take (j + 1)).filter p = (l.take j).filter p ++ (if p l[j] = true then [l[j]] else []) := by
  rw [List.take_succ_eq_append_getElem h, List.filter_append, List.filter_cons, List.filter_nil]

set_option maxRecDepth 20000 in
set_option maxHeartbeats 4000000 in
theorem spec_ReadingsBetween.callsT (A0 : Option Addr) (c0 : Nat) (s : List SG) (A1 : Option Addr) (c1 : Nat) (m : List MP) (worn : ByteArray) (lo hi : Int) (w : World) (hr0 : Kd.C k76 w A0 s.length s) (hc0 : s.length ≤ c0) (hr1 : Kd.C k79 w A1 m.length m) (hc1 : m.length ≤ c1) (hf : bigR s m worn) :
    Calls Tryz.prog 6 #[.agg #[.slice A0 s.length c0, .slice A1 m.length c1], .string worn, .int .i64 lo, .int .i64 hi] w fun e w' => ∃ v0_ : Value, e = .returned (.tuple #[v0_, .int .i64 (betweenS s m worn lo hi).2]) ∧ Kd.R Kd.string 9 w' w.heap.size (fun _ => True) v0_ (betweenS s m worn lo hi).1 ∧ Below w.heap.size w w' := by
  have HI0 := Lib.hid (isS_new hr0 hr1 (c0_0 := c0) (c0_1 := c1))
  have HB0 := Lib.hid (below_alloc (Below.refl w.heap.size w) (.cells #[.slice A0 s.length c0, .slice A1 m.length c1] 32))
  have HRL := Lib.hid (readS_len' s m worn)
  have HSZ := Lib.hid (readS_size (s := s) (m := m) (worn := worn))
  have HSM := Lib.hid (fun x (hx : x.size ≤ 16) => spec_l03Sum.val s m x hf.1 hf.2.1 hf.2.2.1 hx 2097160 (by omega))
  have HC := Lib.hid (fun (W : World) hI hB => spec_l03Readings.callsT w.heap.size s m worn w W hI hB hf)
  obtain ⟨res, hres⟩ : ∃ res, res = betweenS s m worn lo hi := ⟨_, rfl⟩
  rw [← hres]
  unfold betweenS at hres
  obtain ⟨rd, hrd⟩ : ∃ rd, rd = readS s m worn := ⟨_, rfl⟩
  rw [← hrd] at HC HSZ HRL hres
  obtain ⟨l, rc⟩ := rd
  dsimp only at HC HSZ HRL hres
  clear hr0 hr1 hf hrd
  by_cases h0 : rc = 0
  rotate_left
  · have d1 : (rc == 0) = false := beq_eq_false_iff_ne.2 h0
    have d2 : decide (rc = 0) = false := decide_eq_false h0
    have d3 : (rc != 0) = true := by rw [bne, d1]; rfl
    rw [if_neg h0] at hres
    subst hres
    clear h0
    go_enter Tryz.func6, Tryz.ntmps6
    go_wp2_with (first | ((with_reducible refine gate_dst (N := 14) rfl ?_); refine Kd.R_lit Kd.string (w0 := w) w.heap.size 9 ?hg (N := 14) ?hd (xs := ([] : List ByteArray)) (inner := []) (ok := fun k => k ≠ w.heap.size) (okp := fun k => k ≠ w.heap.size) ?hr ?hp (fun _ hk => hk) (HI0.out.fresh _ (Nat.le_refl _)) HB0.out HB0.out.size (by simp) ?_; (case hd => rfl); (case hg => rfl); (case hr => first | (go_simp; done) | (go_simp; rfl)); (case hp => exact (Reps.none _ _)); intro v3 w3 ho hb hg_ hnew_; have HO3 := Lib.hid ho; have HB3 := Lib.hid hb; have HI3 := Lib.hid (HI0.out.grown hg_ (by simp)); have HN3 := Lib.hid hnew_; clear ho hb hg_ hnew_) | (go_at_call 21; (with_reducible refine (HC.out _ HI3.out HB3.out).mono ?_); rintro e w4 ⟨v1, rfl, hR, hi, hb, hk⟩; have HRX := Lib.hid hR; have HI4 := Lib.hid hi; have HB4 := Lib.hid hb; have HO4 := Lib.hid (Kd.R_keep HO3.out hk (fun _ hk => hk)); have NE4 := Lib.hid (ne_base HO3.out HN3.out hR); clear hR hi hb hk))
    go_ret2
    exact ⟨_, rfl, Kd.R_mono HO4.out (fun _ _ => trivial), HB4.out⟩
  · subst h0
    rw [if_pos rfl] at hres
    have HRES := Lib.hid hres
    clear hres
    have L501 := HRL.out
    go_enter Tryz.func6, Tryz.ntmps6
    go_wp2_with (first | ((with_reducible refine gate_dst (N := 14) rfl ?_); refine Kd.R_lit Kd.string (w0 := w) w.heap.size 9 ?hg (N := 14) ?hd (xs := ([] : List ByteArray)) (inner := []) (ok := fun k => k ≠ w.heap.size) (okp := fun k => k ≠ w.heap.size) ?hr ?hp (fun _ hk => hk) (HI0.out.fresh _ (Nat.le_refl _)) HB0.out HB0.out.size (by simp) ?_; (case hd => rfl); (case hg => rfl); (case hr => first | (go_simp; done) | (go_simp; rfl)); (case hp => exact (Reps.none _ _)); intro v3 w3 ho hb hg_ hnew_; have HO3 := Lib.hid ho; have HB3 := Lib.hid hb; have HI3 := Lib.hid (HI0.out.grown hg_ (by simp)); have HN3 := Lib.hid hnew_; clear ho hb hg_ hnew_) | (go_at_call 21; (with_reducible refine (HC.out _ HI3.out HB3.out).mono ?_); rintro e w4 ⟨v1, rfl, hR, hi, hb, hk⟩; have HRX := Lib.hid hR; have HI4 := Lib.hid hi; have HB4 := Lib.hid hb; have HO4 := Lib.hid (Kd.R_keep HO3.out hk (fun _ hk => hk)); have NE4 := Lib.hid (ne_base HO3.out HN3.out hR); clear hR hi hb hk))
    obtain ⟨AL, cl, eL⟩ := Kd.R_slice HRX.out
    obtain ⟨nl, hnl⟩ : ∃ nl, nl = l.length := ⟨_, rfl⟩
    rw [← hnl] at eL L501
    subst eL
    have HNL := Lib.hid hnl
    clear hnl
    go_loopw [10, 13] (fun v i wr => ∃ j : Nat, j ≤ nl ∧ i = .int .i64 j ∧ RowKit.Hid (Kd.R Kd.string 9 wr w.heap.size (fun k => k ≠ w.heap.size) v ((l.take j).filter (fun x => inB lo hi (sumB s m x)))) ∧ RowKit.Hid (Kd.R Kd.string 9 wr w3.heap.size (fun k => k ≠ w.heap.size) (.slice AL nl cl) l) ∧ RowKit.Hid (v.ownBlock ≠ (Value.slice AL nl cl).ownBlock) ∧ RowKit.Hid (IsS32 w wr w.heap.size s m) ∧ RowKit.Hid (Below w.heap.size w wr)) (fun _ i _ => nl - (intOf i).toNat)
    case atStart => exact ⟨0, Nat.zero_le _, rfl, Lib.hid (by simpa using HO4.out), HRX, NE4, HI4, HB4⟩
    case round =>
      clear HO4 HRX NE4 HI4 HB4
      obtain ⟨j, hj, rfl, HR, HL, NE, HI, HB⟩ := hrel
      by_cases hlt : j < nl
      · have hlt2 : (j : Int) < (nl : Int) := by omega
        have hjl : j < l.length := by rw [← HNL.out]; exact hlt
        obtain ⟨ad, ea, hx⟩ := Kd.at_string (Kd.R_reads' HL.out).2.2 (j : Int) (by omega) (by omega)
        cases ea
        rw [Int.toNat_natCast] at hx
        obtain ⟨x, hxx⟩ : ∃ x, x = rdOf ByteArray.empty l (j : Int) := ⟨_, rfl⟩
        rw [← hxx] at hx
        have EX := Lib.hid (show x = l[j] from by rw [hxx]; exact rdOf_get _ _ _ hjl)
        have HADN := Lib.hid (show (ad.add j).block ≠ w.heap.size from by rw [add_block]; exact row_blk HL.out)
        have HFS := Lib.hid (filter_step (fun x => inB lo hi (sumB s m x)) l j hjl)
        rw [← EX.out] at HFS
        have HS := Lib.hid (HSM.out x (by rw [EX.out]; exact (HSZ.out _ (List.getElem_mem hjl)).2))
        have HIN := Lib.hid (in_f lo hi (sumB s m x))
        obtain ⟨sv, hsv⟩ : ∃ sv, sv = sumB s m x := ⟨_, rfl⟩
        rw [← hsv] at HS HIN HFS
        clear hxx hsv
        cases hin : inB lo hi sv with
        | false =>
          rw [hin] at HIN HFS
          rw [if_neg (by simp), List.append_nil] at HFS
          clear hin
          go_wp2_with (first | (go_at_call 23; (with_reducible refine (spec_l03Sum.calls 2097160 w.heap.size s m x sv w _ HI.out HB.out HS.out).mono ?_); rintro e w5 ⟨rfl, hi5, hb5, hk5⟩; have HI5 := Lib.hid hi5; have HB5 := Lib.hid hb5; have HR5 := Lib.hid (Kd.R_keep HR.out hk5 (fun _ hk => hk)); have HL5 := Lib.hid (Kd.R_keep HL.out hk5 (fun _ hk => hk)); have hx5 := keep_cell hk5 hx HADN.out; clear hi5 hb5 hk5 hx) | (go_at_call 22; (with_reducible refine (spec_l00In.calls sv lo hi _ _ HIN.out).mono ?_); rintro e w6 ⟨rfl, ⟨nd, rfl⟩⟩))
          go_roundw
          case measure => simp only [intOf]; omega
          case rel => exact ⟨j + 1, by omega, by go_num, Lib.hid (by rw [HFS.out]; exact Kd.R_drewN HR5.out nd), Lib.hid (Kd.R_drewN HL5.out nd), NE, Lib.hid (HI5.out.drewN nd), Lib.hid (pw_below_drewN HB5.out nd)⟩
        | true =>
          rw [hin] at HIN HFS
          rw [if_pos rfl] at HFS
          clear hin
          have HLA := Lib.hid (show (((l.take j).filter (fun x => inB lo hi (sumB s m x))).length + 1) * 16 ≤ 140737488355328 from by
            have h1 := List.length_filter_le (fun x => inB lo hi (sumB s m x)) (l.take j)
            have h2 : (l.take j).length ≤ 501 := by rw [List.length_take]; have := HRL.out; omega
            omega)
          go_wp2_with (first | (go_at_call 23; (with_reducible refine (spec_l03Sum.calls 2097160 w.heap.size s m x sv w _ HI.out HB.out HS.out).mono ?_); rintro e w5 ⟨rfl, hi5, hb5, hk5⟩; have HI5 := Lib.hid hi5; have HB5 := Lib.hid hb5; have HR5 := Lib.hid (Kd.R_keep HR.out hk5 (fun _ hk => hk)); have HL5 := Lib.hid (Kd.R_keep HL.out hk5 (fun _ hk => hk)); have hx5 := keep_cell hk5 hx HADN.out; clear hi5 hb5 hk5 hx) | (go_at_call 22; (with_reducible refine (spec_l00In.calls sv lo hi _ _ HIN.out).mono ?_); rintro e w6 ⟨rfl, ⟨nd, rfl⟩⟩) | ((with_reducible refine gate_builtin (b := .append) (xs := #[.tmp 38, .tmp 43]) rfl ?_); at_builtin; refine Kd.R_append Kd.string (w0 := w) w.heap.size rfl (.tmp 38) (.tmp 43) 27 9 (.string ⟨#[]⟩) 16 rfl Tryz.underlying27 info9 rfl (by decide) (by omega) u10 ((l.take j).filter (fun x => inB lo hi (sumB s m x))) x [.string x] (fun k => k ≠ w.heap.size) (fun _ => False) ?hS ?hX ?aP (fun _ hk => hk.elim) ?aF ?aO ?aB ?aS ?aL ?_; (case hS => rfl); (case hX => first | rfl | (go_simp; done) | (simp [World.alloc]; done) | (go_simp; rfl)); (case aP => exact rfl); (case aF => exact (HI5.out.drewN nd).fresh); (case aO => exact Kd.R_drewN HR5.out nd); (case aB => exact pw_below_drewN HB5.out nd); (case aS => exact (pw_below_drewN HB5.out nd).size); (case aL => exact HLA.out); intro v9 w9 ho hb hg hat; have HR9 := Lib.hid ho; have HB9 := Lib.hid hb; have HL9 := Lib.hid (Kd.R_grown1 (Kd.R_drewN HL5.out nd) rfl hg NE.out); have NE9 := Lib.hid (ne_after (Kd.R_drewN HL5.out nd) NE.out hat); have HI9 := Lib.hid ((HI5.out.drewN nd).grown hg ((HI5.out.drewN nd).own_ne (Kd.R_drewN HR5.out nd) (by decide))); clear ho hb hg hat))
          go_roundw
          case measure => simp only [intOf]; omega
          case rel => exact ⟨j + 1, by omega, by go_num, Lib.hid (by rw [HFS.out]; exact HR9.out), HL9, NE9, HI9, HB9⟩
      · have hlt2 : ¬ (j : Int) < (nl : Int) := by omega
        have HE := Lib.hid (show (l.take j).filter (fun x => inB lo hi (sumB s m x)) = res.1 from by rw [HRES.out, List.take_of_length_le (by have := HNL.out; omega)])
        have HE2 := Lib.hid (show res.2 = 0 from by rw [HRES.out])
        go_wp2
        go_ret2
        rw [HE2.out, ← HE.out]
        exact ⟨_, rfl, Kd.R_mono HR.out (fun _ _ => trivial), HB.out⟩

set_option maxRecDepth 20000 in
set_option maxHeartbeats 4000000 in
theorem impl_between1.calls (g0 g1 g2 : Nat) (A0 : Option Addr) (c0 : Nat) (s : List SG) (A1 : Option Addr) (c1 : Nat) (m : List MP) (lo hi : Int) (x : ByteArray) (W : World) (hbk : W.heap[g0]? = some (.cells #[.slice A0 s.length c0, .slice A1 m.length c1] 32 (0, 0))) (hlo : W.heap[g1]? = some (.cells #[.int .i64 lo] 2 (0, 0))) (hhi : W.heap[g2]? = some (.cells #[.int .i64 hi] 2 (0, 0))) (hr0 : Kd.C k76 W A0 s.length s) (hc0 : s.length ≤ c0) (hr1 : Kd.C k79 W A1 m.length m) (hc1 : m.length ≤ c1) (hb : bigR s m ⟨#[]⟩) (h16 : x.size ≤ 16) :
    Calls Tryz.prog 28 #[.string x, .pointer (some ⟨g0, 0, none⟩), .pointer (some ⟨g1, 0, none⟩), .pointer (some ⟨g2, 0, none⟩)] W fun e w' => e = .returned (.bool (!inB lo hi (sumB s m x))) ∧ Below W.heap.size W w' := by
  have HSP := Lib.hid (impl_System_split.val 1048577 s m x hb.1 hb.2.1 (by have := hb.1; omega) (by have := hb.2.1; omega) hb.2.2.1 h16 1048700 (by omega))
  have HSM := Lib.hid (impl_sum_split s m x h16 2097160 (by omega))
  have HWI := Lib.hid (within_f lo hi (sumB s m x))
  have HR0 := Lib.hid hr0
  have HR1 := Lib.hid hr1
  have hd0 : W.drew.cell? ⟨g0, 0, none⟩ = some (.slice A0 s.length c0) := (blk_cell hbk 0).trans rfl
  have hd1 : W.drew.cell? ⟨g0, 1, none⟩ = some (.slice A1 m.length c1) := (blk_cell hbk 1).trans rfl
  have hd2 : W.drew.cell? ⟨g1, 0, none⟩ = some (.int .i64 lo) := (blk_cell hlo 0).trans rfl
  have hd3 : W.drew.cell? ⟨g2, 0, none⟩ = some (.int .i64 hi) := (blk_cell hhi 0).trans rfl
  have HB2 := Lib.hid (show Below W.heap.size W W.drew from below_drew1 (Below.refl _ _))
  clear hbk hlo hhi hr0 hr1
  obtain ⟨ps, hps⟩ : ∃ ps, ps = partsT s m x := ⟨_, rfl⟩
  obtain ⟨sv, hsv⟩ : ∃ sv, sv = sumB s m x := ⟨_, rfl⟩
  rw [← hps] at HSP HSM
  rw [← hsv] at HSM HWI ⊢
  obtain ⟨bv, hbv⟩ : ∃ bv, bv = inB lo hi sv := ⟨_, rfl⟩
  rw [← hbv] at HWI ⊢
  clear hps hsv hbv
  go_enter Tryz.func28, Tryz.ntmps28
  go_wp2
  refine start_ (n := 9) (S := fun w' => Below (W).drew.heap.size (W).drew w') (ds := []) #[false, false, false, false, false, false, false, false, false] (by kernel_rfl) rfl rfl (Below.refl _ _) (fun hHeld => ?_)
  generalize W.drew = wq at hd0 hd1 hd2 hd3 HB2 hHeld ⊢
  refine take_ (i := 0) (N := some 6) (v := ?_) (a' := ?_) #[true, false, false, false, false, false, false, false, false] rfl rfl (by kernel_rfl) (fun _ _ _ h => h) (Or.inl ⟨by rfl, ?_⟩) hHeld ?_ ?_
  rotate_left
  · rintro w' hS
    have q_hd0 := bcell hS hd0
    have q_hd1 := bcell hS hd1
    have q_hd2 := bcell hS hd2
    have q_hd3 := bcell hS hd3
    go_simp
    with_reducible rfl
  rotate_left
  · simp only [Act.put, List.setIfInBounds_toArray, List.set_cons_zero, List.set_cons_succ, i64_w, i32_w]
    rfl
  refine pure_ (i := 1) (N := some 7) (v := ?_) (a' := ?_) #[true, true, false, false, false, false, false, false, false] rfl rfl (by kernel_rfl) (fun _ _ _ h => h) (Or.inl ⟨by rfl, ?_⟩) ?_ ?_
  rotate_left
  · intro w'
    go_simp
    with_reducible rfl
  rotate_left
  · simp only [Act.put, List.setIfInBounds_toArray, List.set_cons_zero, List.set_cons_succ, i64_w, i32_w]
    rfl
  refine take_ (i := 4) (N := some 10) (v := ?_) (a' := ?_) #[true, true, false, false, true, false, false, false, false] rfl rfl (by kernel_rfl) (fun _ _ _ h => h) (Or.inl ⟨by rfl, ?_⟩) hHeld ?_ ?_
  rotate_left
  · rintro w' hS
    have q_hd0 := bcell hS hd0
    have q_hd1 := bcell hS hd1
    have q_hd2 := bcell hS hd2
    have q_hd3 := bcell hS hd3
    go_simp
    with_reducible rfl
  rotate_left
  · simp only [Act.put, List.setIfInBounds_toArray, List.set_cons_zero, List.set_cons_succ, i64_w, i32_w]
    rfl
  refine take_ (i := 5) (N := some 11) (v := ?_) (a' := ?_) #[true, true, false, false, true, true, false, false, false] rfl rfl (by kernel_rfl) (fun _ _ _ h => h) (Or.inl ⟨by rfl, ?_⟩) hHeld ?_ ?_
  rotate_left
  · rintro w' hS
    have q_hd0 := bcell hS hd0
    have q_hd1 := bcell hS hd1
    have q_hd2 := bcell hS hd2
    have q_hd3 := bcell hS hd3
    go_simp
    with_reducible rfl
  rotate_left
  · simp only [Act.put, List.setIfInBounds_toArray, List.set_cons_zero, List.set_cons_succ, i64_w, i32_w]
    rfl
  refine one_ (i := 2) (N := some 8) #[true, true, true, false, true, true, false, false, false] rfl rfl (by kernel_rfl) (by decide) (fun K hK => ?_)
  refine goes_ Tryz.func31 (by kernel_rfl) rfl #[.agg #[.slice A0 s.length c0, .slice A1 m.length c1], .string x] (by rfl) rfl rfl (by (try simp only [List.map_toArray, List.map_cons, List.map_nil]); first | done | rfl | (simp only [List.length_drop, List.length_take]; rfl)) ?_
  with_reducible refine (impl_System_split.calls 1048700 A0 c0 s A1 c1 m x ps _ (Kd.C_below HR0.out (below_step HB2.out hHeld)) hc0 (Kd.C_below HR1.out (below_step HB2.out hHeld)) hc1 HSP.out).mono ?_
  rintro e wz ⟨v2, rfl, hR, hb⟩
  obtain ⟨A2, c2, rfl⟩ := Kd.R_slice hR
  refine ⟨_, rfl, ?_⟩
  have HP := Lib.hid hR
  clear hR
  have hS_ := below_step hHeld hb
  clear hb hHeld
  refine hK.out _ _ hS_ (fun hHeld => ?_)
  clear hK K hS_
  refine norm_ (a' := ?_) ?_ ?_
  rotate_left
  · show Act.put _ (some 8) _ = _
    simp only [Act.put, List.setIfInBounds_toArray, List.set_cons_zero, List.set_cons_succ, i64_w, i32_w]
    rfl
  refine one_ (i := 3) (N := some 9) #[true, true, true, true, true, true, false, false, false] rfl rfl (by kernel_rfl) (by decide) (fun K hK => ?_)
  refine goes_ Tryz.func30 (by kernel_rfl) rfl #[.slice A2 ps.length c2] (by rfl) rfl rfl (by (try simp only [List.map_toArray, List.map_cons, List.map_nil]); first | done | rfl | (simp only [List.length_drop, List.length_take]; rfl)) ?_
  with_reducible refine (impl_sum.calls 2097160 A2 c2 ps sv _ (Kd.R_reads' HP.out).2.2 (Kd.R_reads' HP.out).2.1 HSM.out).mono ?_
  rintro e wz ⟨rfl, hb⟩
  refine ⟨_, rfl, ?_⟩
  have m_HP := Lib.hid (Kd.R_below HP.out hb)
  clear HP
  have HP := m_HP
  clear m_HP
  have hS_ := below_step hHeld hb
  clear hb hHeld
  refine hK.out _ _ hS_ (fun hHeld => ?_)
  clear hK K hS_
  refine norm_ (a' := ?_) ?_ ?_
  rotate_left
  · show Act.put _ (some 9) _ = _
    simp only [Act.put, List.setIfInBounds_toArray, List.set_cons_zero, List.set_cons_succ, i64_w, i32_w]
    rfl
  refine one_ (i := 6) (N := some 12) #[true, true, true, true, true, true, true, false, false] rfl rfl (by kernel_rfl) (by decide) (fun K hK => ?_)
  refine goes_ Tryz.func29 (by kernel_rfl) rfl #[.int .i64 sv, .int .i64 lo, .int .i64 hi] (by rfl) rfl rfl (by (try simp only [List.map_toArray, List.map_cons, List.map_nil]); first | done | rfl | (simp only [List.length_drop, List.length_take]; rfl)) ?_
  with_reducible refine (impl_within.calls sv lo hi bv _ HWI.out).mono ?_
  rintro e wz ⟨rfl, hdr⟩
  have hb := hdr.below
  clear hdr
  refine ⟨_, rfl, ?_⟩
  have m_HP := Lib.hid (Kd.R_below HP.out hb)
  clear HP
  have HP := m_HP
  clear m_HP
  have hS_ := below_step hHeld hb
  clear hb hHeld
  refine hK.out _ _ hS_ (fun hHeld => ?_)
  clear hK K hS_
  refine norm_ (a' := ?_) ?_ ?_
  rotate_left
  · show Act.put _ (some 12) _ = _
    simp only [Act.put, List.setIfInBounds_toArray, List.set_cons_zero, List.set_cons_succ, i64_w, i32_w]
    rfl
  refine pure_ (i := 7) (N := some 13) (v := ?_) (a' := ?_) #[true, true, true, true, true, true, true, true, false] rfl rfl (by kernel_rfl) (fun _ _ _ h => h) (Or.inl ⟨by rfl, ?_⟩) ?_ ?_
  rotate_left
  · intro w'
    go_simp
    with_reducible rfl
  rotate_left
  · simp only [Act.put, List.setIfInBounds_toArray, List.set_cons_zero, List.set_cons_succ, i64_w, i32_w]
    rfl
  refine pure_ (i := 8) (N := some 5) (v := ?_) (a' := ?_) #[true, true, true, true, true, true, true, true, true] rfl rfl (by kernel_rfl) (fun _ _ _ h => h) (Or.inl ⟨by rfl, ?_⟩) ?_ ?_
  rotate_left
  · intro w'
    go_simp
    with_reducible rfl
  rotate_left
  · simp only [Act.put, List.setIfInBounds_toArray, List.set_cons_zero, List.set_cons_succ, i64_w, i32_w]
    rfl
  refine done_ (by kernel_rfl) ?_
  go_wp2
  go_ret
  exact ⟨rfl, below_step HB2.out hHeld⟩
set_option maxRecDepth 20000 in
set_option maxHeartbeats 4000000 in
theorem impl_ReadingsBetween.callsT (A0 : Option Addr) (c0 : Nat) (s : List SG) (A1 : Option Addr) (c1 : Nat) (m : List MP) (worn : ByteArray) (lo hi : Int) (w : World) (hG : Glob w) (hr0 : Kd.C k76 w A0 s.length s) (hc0 : s.length ≤ c0) (hr1 : Kd.C k79 w A1 m.length m) (hc1 : m.length ≤ c1) (hf : bigR s m worn) :
    Calls Tryz.prog 8 #[.agg #[.slice A0 s.length c0, .slice A1 m.length c1], .string worn, .int .i64 lo, .int .i64 hi] w fun e w' => ∃ v0_ : Value, e = .returned (.tuple #[v0_, .int .i64 (betweenS s m worn lo hi).2]) ∧ Kd.R Kd.string 9 w' w.heap.size (fun _ => True) v0_ (betweenS s m worn lo hi).1 ∧ Below w.heap.size w w' := by
  obtain ⟨W3, hW3⟩ : ∃ W3, W3 = ((w.alloc (.cells #[.slice A0 s.length c0, .slice A1 m.length c1] 32)).alloc (.cells #[.int .i64 lo] 2)).alloc (.cells #[.int .i64 hi] 2) := ⟨_, rfl⟩
  have HB3 := Lib.hid (show Below w.heap.size w W3 from by rw [hW3]; exact below_alloc (below_alloc (below_alloc (Below.refl _ _) _) _) _)
  have K0 := Lib.hid (show W3.heap[w.heap.size]? = some (.cells #[.slice A0 s.length c0, .slice A1 m.length c1] 32 (0, 0)) from by rw [hW3]; exact blk_alloc (blk_alloc (heap_alloc_new w _) _) _)
  have K1 := Lib.hid (show W3.heap[w.heap.size + 1]? = some (.cells #[.int .i64 lo] 2 (0, 0)) from by rw [hW3]; have := heap_alloc_new (w.alloc (.cells #[.slice A0 s.length c0, .slice A1 m.length c1] 32)) (.cells #[.int .i64 lo] 2); rw [show (w.alloc (.cells #[.slice A0 s.length c0, .slice A1 m.length c1] 32)).heap.size = w.heap.size + 1 by simp] at this; exact blk_alloc this _)
  have K2 := Lib.hid (show W3.heap[w.heap.size + 2]? = some (.cells #[.int .i64 hi] 2 (0, 0)) from by rw [hW3]; have := heap_alloc_new ((w.alloc (.cells #[.slice A0 s.length c0, .slice A1 m.length c1] 32)).alloc (.cells #[.int .i64 lo] 2)) (.cells #[.int .i64 hi] 2); rw [show ((w.alloc (.cells #[.slice A0 s.length c0, .slice A1 m.length c1] 32)).alloc (.cells #[.int .i64 lo] 2)).heap.size = w.heap.size + 2 by simp] at this; exact this)
  have HRL := Lib.hid (readI_len s m worn)
  have HSZ := Lib.hid (readI_size (s := s) (m := m) (worn := worn))
  have HC := Lib.hid (impl_readings.callsT A0 c0 s A1 c1 m worn W3 (hG.step HB3.out) (Kd.C_below hr0 HB3.out) hc0 (Kd.C_below hr1 HB3.out) hc1 hf)
  have HR0 := Lib.hid hr0
  have HR1 := Lib.hid hr1
  have HSAME := Lib.hid (readings_same s m worn)
  obtain ⟨res, hres⟩ : ∃ res, res = betweenS s m worn lo hi := ⟨_, rfl⟩
  rw [← hres]
  unfold betweenS at hres
  rw [HSAME.out] at hres
  obtain ⟨ri, hri⟩ : ∃ ri, ri = readI s m worn := ⟨_, rfl⟩
  rw [← hri] at HC HSZ HRL hres
  obtain ⟨l, rc⟩ := ri
  dsimp only at HC HSZ HRL hres
  have HF := Lib.hid hf
  have z0 : W3.cell? ⟨w.heap.size, 0, none⟩ = some (.slice A0 s.length c0) := (blk_cell K0.out 0).trans rfl
  have z1 : W3.cell? ⟨w.heap.size, 1, none⟩ = some (.slice A1 m.length c1) := (blk_cell K0.out 1).trans rfl
  clear hG hr0 hr1 hf hri HSAME
  by_cases h0 : rc = 0
  rotate_left
  · have d1 : (rc == 0) = false := beq_eq_false_iff_ne.2 h0
    have d2 : decide (rc = 0) = false := decide_eq_false h0
    have d3 : (rc != 0) = true := by rw [bne, d1]; rfl
    rw [if_neg h0] at hres
    subst hres
    clear h0
    subst hW3
    go_enter Tryz.func8, Tryz.ntmps8
    go_wp2_with (go_at_call 26; (with_reducible refine HC.out.mono ?_); rintro e w4 ⟨v1, rfl, hR, hb⟩; have HB4 := Lib.hid (below_step HB3.out hb); clear hR hb)
    go_ret2
    exact ⟨_, rfl, Kd.R_nil _ _ _ _ _, HB4.out⟩
  · subst h0
    rw [if_pos rfl, if_pos rfl] at hres
    subst hres
    have HRL2 := Lib.hid (HRL.out rfl)
    have HW3 := Lib.hid hW3
    have EQ := hW3
    clear HRL
    have HDL := Lib.hid (fun (w4 : World) (v1 : Value) (A : Option Addr) (c : Nat) (hb : Below W3.heap.size W3 w4) (hR : Kd.R Kd.string 9 w4 W3.heap.size (fun _ => True) (.slice A l.length c) l) =>
      delete_func_string 28 #[.pointer (some ⟨w.heap.size, 0, none⟩), .pointer (some ⟨w.heap.size + 1, 0, none⟩), .pointer (some ⟨w.heap.size + 2, 0, none⟩)] (fun x => !inB lo hi (sumB s m x)) l A c W3.heap.size (fun _ => True) w4 (enters_of Tryz.func28 (by kernel_rfl) rfl) hR hb.size (by have := HRL2.out; omega) (fun x hx W hW => by
        have hWW : Below W3.heap.size W3 W := hb.trans hW
        have hW0 : Below w.heap.size w W := below_step HB3.out hWW
        exact impl_between1.calls w.heap.size (w.heap.size + 1) (w.heap.size + 2) A0 c0 s A1 c1 m lo hi x W (blk_below K0.out hWW) (blk_below K1.out hWW) (blk_below K2.out hWW) (Kd.C_below HR0.out hW0) hc0 (Kd.C_below HR1.out hW0) hc1 ⟨HF.out.1, HF.out.2.1, HF.out.2.2.1, by decide⟩ (HSZ.out x hx).2))
    have HFI := Lib.hid (show l.filter (fun x => !(fun x => !inB lo hi (sumB s m x)) x) = l.filter (fun x => inB lo hi (sumB s m x)) from by simp)
    rw [HFI.out] at HDL
    subst EQ
    obtain ⟨fl, hfl⟩ : ∃ fl, fl = l.filter (fun x => inB lo hi (sumB s m x)) := ⟨_, rfl⟩
    rw [← hfl] at HDL ⊢
    clear hfl HFI
    obtain ⟨nl, hnl⟩ : ∃ nl, nl = l.length := ⟨_, rfl⟩
    obtain ⟨nf, hnf⟩ : ∃ nf, nf = fl.length := ⟨_, rfl⟩
    rw [← hnl] at HDL
    rw [← hnf] at HDL
    have HNL := Lib.hid hnl
    clear hnl hnf
    go_enter Tryz.func8, Tryz.ntmps8
    go_wp2_with (first | (go_at_call 26; (with_reducible refine HC.out.mono ?_); rintro e w4 ⟨v1, rfl, hR, hb⟩; obtain ⟨AL, cl, eL⟩ := Kd.R_slice hR; rw [← HNL.out] at eL; subst eL; have HD2 := Lib.hid (HDL.out w4 (.slice AL nl cl) AL cl hb hR); have HB4 := Lib.hid hb; clear hR hb) | (go_at_call 27; (with_reducible refine HD2.out.mono ?_); rintro e w5 ⟨rfl, hR, hb⟩; have HR5 := Lib.hid hR; have HB5 := Lib.hid (below_step HB3.out (HB4.out.trans hb)); clear hR hb))
    go_ret2
    exact ⟨_, rfl, Kd.R_lower HR5.out HB3.out.size, HB5.out⟩
end Go.Proofs.YtdhhnkhgmoblhaaGreatDoor.Q
