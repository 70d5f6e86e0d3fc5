/- impl.ShortenAt by hand: words shortened at given places. -/
import Derived.Test.YtiapaggkbhdnkaaGreatDoorQpureShortAt
import Derived.Test.YtiapaggkbhdnkaaGreatDoorQlibSortI
import Derived.Test.YtiapaggkbhdnkaaGreatDoorQhandFuncI
import Derived.Test.YtiapaggkbhdnkaaGreatDoorQlibClone
import Derived.Test.YtiapaggkbhdnkaaGreatDoorQlibF
import Derived.Test.YtiapaggkbhdnkaaGreatDoorQimplValidText
import Derived.Test.YtiapaggkbhdnkaaGreatDoorQimplValidShorts
import Derived.Test.YtiapaggkbhdnkaaGreatDoorQimplwithShorts
import Derived.Test.YtiapaggkbhdnkaaGreatDoorQimplshortened
import Derived.Test.YtiapaggkbhdnkaaGreatDoorQSmall
import Derived.Outline
import Derived.Lib.Hide
namespace Go.Proofs.YtiapaggkbhdnkaaGreatDoor.Q
open Go.RowKit Go.Proofs.YtiapaggkbhdnkaaGreatDoorW.PrintWords Go.Proofs.YtiapaggkbhdnkaaGreatDoorW.PrintLast Go.Proofs.YtiapaggkbhdnkaaGreatDoorW.PrintMore
open Go.Proofs.YtiapaggkbhdnkaaGreatDoor.Pure
set_option linter.unusedVariables false
set_option linter.unusedSimpArgs false

theorem slices_Contains_int64.val (l : List Int) (a : Int) (hl : l.length ≤ 1000000) (k : Nat) (hk : l.length < k) : slices_Contains_int64.f k l a = some (l.contains a) := by
  have key : ∀ d i k, i + d = l.length → d < k → a ∉ l.take i → ∃ r : Int, slices_Index_int64.l0 k l a (l.length : Int) (i : Nat) = some r ∧ (decide (r ≥ 0) = l.contains a) := by
    intro d
    induction d with
    | zero =>
      intro i k hi hk hn
      obtain ⟨k, rfl⟩ : ∃ m, k = m + 1 := ⟨k - 1, by omega⟩
      obtain rfl : i = l.length := by omega
      rw [List.take_length] at hn
      refine ⟨-1, by rw [slices_Index_int64.l0, if_neg (by omega)], ?_⟩
      have : l.contains a = false := by
        cases h : l.contains a with
        | false => rfl
        | true => exact absurd (List.contains_iff_mem.1 h) hn
      rw [this]
      rfl
    | succ d ih =>
      intro i k hi hk hn
      obtain ⟨k, rfl⟩ : ∃ m, k = m + 1 := ⟨k - 1, by omega⟩
      have hlt : i < l.length := by omega
      rw [slices_Index_int64.l0, if_pos (by omega), if_pos (by omega), if_pos (by omega), rd_get _ _ hlt]
      by_cases h : a = l[i]
      · refine ⟨i, by rw [if_pos h], ?_⟩
        have : l.contains a = true := List.contains_iff_mem.2 (by rw [h]; exact List.getElem_mem _)
        rw [this]
        exact decide_eq_true (by omega)
      · rw [if_neg h, wrap_succ hlt (by omega)]
        refine ih (i + 1) k (by omega) (by omega) ?_
        rw [List.take_succ_eq_append_getElem hlt, List.mem_append, List.mem_singleton]
        rintro (h1 | h1)
        · exact hn h1
        · exact h h1
  obtain ⟨r, e, h⟩ := key l.length 0 k (by omega) hk (by simp)
  unfold slices_Contains_int64.f slices_Index_int64.f
  rw [show slices_Index_int64.l0 k l a (l.length : Int) 0 = some r from e, Option.bind_some, h]

set_option maxRecDepth 20000 in
theorem impl_ShortenAt1.calls (g : Nat) (AW : Option Addr) (cW : Nat) (ws : List ByteArray) (x : Int) (W : World) (hg : W.cell? ⟨g, 0, none⟩ = some (.slice AW ws.length cW)) (hr : Kd.C Kd.string W AW ws.length ws) (hc : ws.length ≤ cW) (hws : ws.length ≤ 1000000) :
    Calls Tryz.prog 26 #[.int .i64 x, .pointer (some ⟨g, 0, none⟩)] W fun e w' => e = .returned (.bool (outOf ws.length x)) ∧ Below W.heap.size W w' := by
  have HS := Lib.hid (impl_size_string.calls AW cW ws (ws.length : Int) W hr hc rfl)
  have HN := Lib.hid (fun V => impl_within.calls x 0 ((ws.length : Int) - 1) (decide (0 ≤ x) && decide (x ≤ (ws.length : Int) - 1)) V (by
    unfold impl_within.f
    by_cases h : 0 ≤ x
    · rw [if_pos h, decide_eq_true h]; rfl
    · rw [if_neg h, decide_eq_false h]; rfl))
  have HO := Lib.hid (show (!(decide (0 ≤ x) && decide (x ≤ (ws.length : Int) - 1))) = outOf ws.length x from rfl)
  obtain ⟨b, hb⟩ : ∃ b, b = (decide (0 ≤ x) && decide (x ≤ (ws.length : Int) - 1)) := ⟨_, rfl⟩
  rw [← hb] at HN HO
  rw [← HO.out]
  clear hr hb HO
  go_enter Tryz.func26, Tryz.ntmps26
  go_wp2_with (first | (go_at_call 28; (with_reducible refine HS.out.mono ?_); rintro e w1 ⟨rfl, n1, rfl⟩) | (go_at_call 27; refine (HN.out _).mono ?_; rintro e w2 ⟨rfl, n2, rfl⟩))
  go_ret
  exact ⟨rfl, pw_below_drewN (Below.refl _ _) _⟩

set_option maxRecDepth 20000 in
theorem impl_ShortenAt2.calls (g g2 : Nat) (AW : Option Addr) (cW : Nat) (ws : List ByteArray) (AL : Option Addr) (cL : Nat) (l : List ISh) (x : Int) (W : World) (hg : W.cell? ⟨g, 0, none⟩ = some (.slice AW ws.length cW)) (hg2 : W.cell? ⟨g2, 0, none⟩ = some (.slice AL l.length cL)) (hr : Kd.C Kd.string W AW ws.length ws) (hc : ws.length ≤ cW) (hr2 : Kd.C k45 W AL l.length l) (hc2 : l.length ≤ cL) (hws : ws.length ≤ 1000000) (hl : l.length ≤ 1048576) :
    Calls Tryz.prog 30 #[.int .i64 x, .pointer (some ⟨g, 0, none⟩), .pointer (some ⟨g2, 0, none⟩)] W fun e w' => e = .returned (.bool (!(whichTo l ws ws.length).contains x)) ∧ Below W.heap.size W w' := by
  obtain ⟨K, hK⟩ : ∃ K, K = 3000000 := ⟨_, rfl⟩
  have HS := Lib.hid (impl_withShorts.calls K AW cW ws AL cL l (whichTo l ws ws.length) W hr hc hr2 hc2 (impl_withShorts.val ws l (by omega) hws K (by omega)))
  have HL := Lib.hid (whichTo_len l ws ws.length)
  obtain ⟨is, his⟩ : ∃ is, is = whichTo l ws ws.length := ⟨_, rfl⟩
  rw [← his] at HS HL ⊢
  clear his hr hr2
  have HV := Lib.hid (slices_Contains_int64.val is x (by have := HL.out; omega) K (by have := HL.out; omega))
  obtain ⟨b, hb⟩ : ∃ b, b = is.contains x := ⟨_, rfl⟩
  rw [← hb] at HV ⊢
  clear hb
  obtain ⟨n, hn⟩ : ∃ n, n = is.length := ⟨_, rfl⟩
  have HN := Lib.hid hn
  clear hn
  go_enter Tryz.func30, Tryz.ntmps30
  go_wp2_with (first | (go_at_call 32; (with_reducible refine HS.out.mono ?_); rintro e w1 ⟨v, rfl, hR, hb⟩; obtain ⟨A, c, eL⟩ := Kd.R_slice hR; subst eL; have HR := Lib.hid hR; have HB := Lib.hid hb; clear hR hb) | (go_at_call 31; (with_reducible refine (slices_Contains_int64.calls K _ _ is x _ _ (Kd.R_reads' HR.out).2.2 (Kd.R_reads' HR.out).2.1 HV.out).mono ?_); rintro e w2 ⟨rfl, n2, rfl⟩))
  go_ret
  exact ⟨rfl, pw_below_drewN HB.out _⟩

theorem whichTo_any (l : List ISh) (ws : List ByteArray) (ns : List Int) (h : ns.any (outOf ws.length) = false) : ns.any (fun x => !(whichTo l ws ws.length).contains x) = ns.any (bareAt l ws) := by
  rw [List.any_eq_false] at h
  rw [Bool.eq_iff_iff, List.any_eq_true, List.any_eq_true]
  constructor
  · rintro ⟨x, hx, h1⟩
    refine ⟨x, hx, ?_⟩
    rw [which_bare l ws x (by simpa using h x hx), Bool.not_not] at h1
    exact h1
  · rintro ⟨x, hx, h1⟩
    refine ⟨x, hx, ?_⟩
    rw [which_bare l ws x (by simpa using h x hx), Bool.not_not]
    exact h1
theorem below_grownV {α : Type} {d : Kd α} {e : Nat} {ok : Nat → Prop} {W1 W W2 : World} {v : Value} {xs : List α} (hB : Below W1.heap.size W1 W) (hR : d.R e W W1.heap.size ok v xs) (hg : W.grownBy W2 v.ownBlock) : Below W1.heap.size W1 W2 :=
  hB.trans ⟨hg.os, hg.tape, hg.output, hg.size, fun k hk => hg.block k (Nat.lt_of_lt_of_le hk hB.size) (by intro h; have := ((Kd.R_bound hR).1 k h.symm).2.1; omega)⟩
theorem box_far {α : Type} {d : Kd α} {e B : Nat} {ok : Nat → Prop} {W : World} {v : Value} {xs : List α} (hR : d.R e W B ok v xs) : some W.heap.size ≠ v.ownBlock := by
  intro h
  have := ((Kd.R_bound hR).1 _ h.symm).2.2.1
  omega

def impl_ShortenAt.f (a : ByteArray) (l : List ISh) (ns : List Int) : Option (ByteArray × Int) := if l.length ≤ 1048576 ∧ ns.length ≤ 1048576 then some (ansT a l ns) else none
set_option maxRecDepth 20000 in
set_option maxHeartbeats 4000000 in
theorem impl_ShortenAt.calls (a0 : ByteArray) (A1 : Option Addr) (c1 : Nat) (l1 : List ISh) (A2 : Option Addr) (c2 : Nat) (l2 : List Int) (r1 : ByteArray) (r2 : Int) (w : World) (hG_ : GlobF w) (hr1 : Kd.C k45 w A1 l1.length l1) (hc1 : l1.length ≤ c1) (hr2 : Kd.C (Kd.int .i64) w A2 l2.length l2) (hc2 : l2.length ≤ c2) (h : impl_ShortenAt.f a0 l1 l2 = some (r1, r2)) :
    Calls Tryz.prog 8 #[.string a0, .slice A1 l1.length c1, .slice A2 l2.length c2] w fun e w' => e = .returned (.tuple #[.string r1, .int .i64 r2]) ∧ Below w.heap.size w w' := by
  unfold impl_ShortenAt.f at h
  split at h
  rotate_left
  · cases h
  rename_i hlen
  obtain ⟨hl1, hl2⟩ := hlen
  replace h := Option.some.inj h
  unfold ansT at h
  have HG := Lib.hid hG_
  have HR1 := Lib.hid hr1
  have HR2 := Lib.hid hr2
  have HB0 := Lib.hid (below_alloc (Below.refl w.heap.size w) (.cells #[.slice A1 l1.length c1] 27))
  have K0 := Lib.hid (heap_alloc_new w (.cells #[.slice A1 l1.length c1] 27))
  obtain ⟨K2, hK2⟩ : ∃ K2, K2 = 2000000 := ⟨_, rfl⟩
  obtain ⟨K5, hK5⟩ : ∃ K5, K5 = 5000000 := ⟨_, rfl⟩
  have HT := Lib.hid (impl_ValidText.calls K2 a0 (textB a0) _ (hG_.glob.step HB0.out) (impl_ValidText.valM a0 K2 (by omega)))
  have HV := Lib.hid (fun (W : World) (hW : Below w.heap.size w W) => impl_ValidShorts.calls K2 A1 c1 l1 (shortsB l1) W (hG_.glob.step hW) (Kd.C_below hr1 hW) hc1 (impl_ValidShorts.val l1 (by omega) K2 (by omega)))
  clear hG_ hr1 hr2
  cases ht : textB a0 with
  | false =>
    rw [ht] at HT h
    simp only [Bool.false_eq_true, if_false, Prod.mk.injEq] at h
    obtain ⟨rfl, rfl⟩ := h
    clear ht HV
    go_enter Tryz.func8, Tryz.ntmps8
    go_wp2_with (go_at_call 20; (with_reducible refine HT.out.mono ?_); rintro e w1 ⟨rfl, hb⟩; have HB1 := Lib.hid (below_step HB0.out hb); have K1 := Lib.hid (blk_below K0.out hb); have hx1 : w1.cell? ⟨w.heap.size, 0, none⟩ = some (.slice A1 l1.length c1) := (blk_cell K1.out 0).trans rfl; clear hb)
    go_ret2
    exact ⟨rfl, HB1.out⟩
  | true =>
  rw [ht] at HT h
  rw [if_pos rfl] at h
  have HTX := Lib.hid ht
  clear ht
  cases hs : shortsB l1 with
  | false =>
    rw [hs] at HV h
    simp only [Bool.false_eq_true, if_false, Prod.mk.injEq] at h
    obtain ⟨rfl, rfl⟩ := h
    clear hs
    go_enter Tryz.func8, Tryz.ntmps8
    go_wp2_with (first | (go_at_call 20; (with_reducible refine HT.out.mono ?_); rintro e w1 ⟨rfl, hb⟩; have HB1 := Lib.hid (below_step HB0.out hb); have K1 := Lib.hid (blk_below K0.out hb); have hx1 : w1.cell? ⟨w.heap.size, 0, none⟩ = some (.slice A1 l1.length c1) := (blk_cell K1.out 0).trans rfl; clear hb) | (go_at_call 21; (with_reducible refine (HV.out _ HB1.out).mono ?_); rintro e w2 ⟨rfl, hb⟩; have HB2 := Lib.hid (below_step HB1.out hb); have K2 := Lib.hid (blk_below K1.out hb); clear hb hx1))
    go_ret2
    exact ⟨rfl, HB2.out⟩
  | true =>
  rw [hs] at HV h
  rw [if_pos rfl] at h
  have HSH := Lib.hid hs
  clear hs
  have HF := Lib.hid (fun (W : World) (hW : Below w.heap.size w W) => strings_Fields.calls a0 (wordsF a0) W (HG.out.step hW) (strings_Fields.val a0 HTX.out))
  have HCL := Lib.hid (fun (W : World) (hW : Below w.heap.size w W) => slices_Clone_int64.calls A2 c2 l2 l2 W (Kd.C_below HR2.out hW) hc2 (by unfold slices_Clone_int64.f; rw [if_pos (by omega)]))
  have HWS := Lib.hid (show (wordsF a0).length ≤ 1000000 from by have := wordsF_small HTX.out; omega)
  have HZ := Lib.hid (show ∀ x ∈ wordsF a0, x.size ≤ 1048576 from fun x hx => by have := words_size a0 x hx; have := text_small HTX.out; omega)
  have HL6 := Lib.hid (shortsB_small l1 HSH.out)
  obtain ⟨ws, hws⟩ : ∃ ws, ws = wordsF a0 := ⟨_, rfl⟩
  rw [← hws] at HF HWS HZ h
  clear hws
  obtain ⟨nW, hnW⟩ : ∃ nW, nW = ws.length := ⟨_, rfl⟩
  have HNW := Lib.hid hnW
  clear hnW
  obtain ⟨n2, hn2⟩ : ∃ n2, n2 = l2.length := ⟨_, rfl⟩
  have HN2 := Lib.hid hn2
  have HSO := Lib.hid (fun (B : Nat) (v : Value) (W : World) (hR : Kd.R (Kd.int .i64) 2 W B (fun _ => True) v l2) => slices_Sort_int64.callsV B _ v l2 W hR hl2)
  have HF1 := Lib.hid (fun (g : Nat) (AW : Option Addr) (cW : Nat) (W : World) (hB : Below w.heap.size w W) (hg : W.heap[g]? = some (.cells #[.slice AW nW cW] 37 (0, 0))) (hr : Kd.C Kd.string W AW nW ws) (hc : nW ≤ cW) => (show Calls Tryz.prog 25 #[.slice A2 l2.length c2, .func (.func 26) #[] #[.pointer (some ⟨g, 0, none⟩)]] W fun e w' => e = .returned (.bool (l2.any (outOf ws.length))) ∧ Below W.heap.size W w' from
    contains_func_int64 26 #[.pointer (some ⟨g, 0, none⟩)] (outOf ws.length) l2 A2 c2 W (enters_of Tryz.func26 (by kernel_rfl) rfl) (Kd.C_below HR2.out hB) (fun x hx V hV => (impl_ShortenAt1.calls g AW cW ws x V (by rw [← HNW.out]; exact (blk_cell (blk_below hg hV) 0).trans rfl) (by rw [← HNW.out]; exact Kd.C_below hr hV) (by rw [← HNW.out]; exact hc) HWS.out).mono (fun _ _ h => ⟨h.1, below_step hV h.2⟩))))
  cases ho : l2.any (outOf ws.length) with
  | true =>
    rw [ho] at HF1 h
    simp only [if_true, Prod.mk.injEq] at h
    obtain ⟨rfl, rfl⟩ := h
    clear ho
    go_enter Tryz.func8, Tryz.ntmps8
    go_wp2_with (first | (go_at_call 20; (with_reducible refine HT.out.mono ?_); rintro e w1 ⟨rfl, hb⟩; have HB1 := Lib.hid (below_step HB0.out hb); have K1 := Lib.hid (blk_below K0.out hb); have hx1 : w1.cell? ⟨w.heap.size, 0, none⟩ = some (.slice A1 l1.length c1) := (blk_cell K1.out 0).trans rfl; clear hb) | (go_at_call 21; (with_reducible refine (HV.out _ HB1.out).mono ?_); rintro e w2 ⟨rfl, hb⟩; have HB2 := Lib.hid (below_step HB1.out hb); have K2 := Lib.hid (blk_below K1.out hb); clear hb hx1) | (go_at_call 22; go_loud ((with_reducible refine (HF.out _ HB2.out).mono ?_); rintro e w3 ⟨v3, rfl, hR, hb⟩; obtain ⟨AW, cW, eW⟩ := Kd.R_slice hR; rw [← HNW.out] at eW; subst eW; have HB3 := Lib.hid (below_step HB2.out hb); have K3 := Lib.hid (blk_below K2.out hb); have hCW := (Kd.R_reads' hR).2; have HCW := Lib.hid (show Kd.C Kd.string w3 AW nW ws from by rw [HNW.out]; exact hCW.2); have HCC := Lib.hid (show nW ≤ cW from hCW.1); clear hb hR hCW)) | (go_at_call 23; go_loud ((with_reducible refine (HCL.out _ HB3.out).mono ?_); rintro e w4 ⟨v4, rfl, hR, hb⟩; have H34 := Lib.hid hb; have HO4 := Lib.hid hR; clear hb hR)))
    have H35 := Lib.hid (below_alloc H34.out (.cells #[.slice AW nW cW] 37))
    have KA5 := Lib.hid (heap_alloc_new w4 (.cells #[.slice AW nW cW] 37))
    have HO5 := Lib.hid (Kd.R_alloc HO4.out (.cells #[.slice AW nW cW] 37))
    have NE4 := Lib.hid (box_far HO4.out)
    generalize w4.alloc (.cells #[.slice AW nW cW] 37) = w5 at H35 KA5 HO5 ⊢
    go_wp2_with (first | (go_at_call 24; (with_reducible refine (HSO.out _ _ _ HO5.out).mono ?_); rintro e w6 ⟨rfl, hR, hg⟩; have H36 := Lib.hid (below_grownV H35.out HO5.out hg); have KA6 := Lib.hid (blk_grown KA5.out hg NE4.out); have HO6 := Lib.hid hR; have HB6 := Lib.hid (below_step HB3.out H36.out); clear hR hg) | (go_at_call 25; (with_reducible refine (HF1.out _ _ _ _ HB6.out KA6.out (Kd.C_below HCW.out H36.out) HCC.out).mono ?_); rintro e w7 ⟨rfl, hb⟩; have H37 := Lib.hid (below_step H36.out hb); have KA7 := Lib.hid (blk_below KA6.out hb); have HO7 := Lib.hid (Kd.R_below HO6.out hb); have HB7 := Lib.hid (below_step HB6.out hb); clear hb))
    go_ret2
    exact ⟨rfl, HB7.out⟩
  | false =>
  rw [ho] at HF1 h
  rw [if_neg Bool.false_ne_true] at h
  have HWA := Lib.hid (whichTo_any l1 ws l2 ho)
  have HO := Lib.hid ho
  clear ho
  have HCO := Lib.hid (fun (B : Nat) (v : Value) (W : World) (hR : Kd.R (Kd.int .i64) 2 W B (fun _ => True) v (sortI l2)) => slices_Compact_int64.callsV B _ v (sortI l2) W hR (by rw [sortI_len]; exact hl2))
  have HND := Lib.hid (show (Go.Lib.compact (sortI l2)).length = l2.length ↔ l2.Nodup from compact_nodup l2)
  obtain ⟨cs, hcs⟩ : ∃ cs, cs = Go.Lib.compact (sortI l2) := ⟨_, rfl⟩
  rw [← hcs] at HND HCO
  clear hcs
  obtain ⟨nc, hnc⟩ : ∃ nc, nc = cs.length := ⟨_, rfl⟩
  have HNC := Lib.hid hnc
  rw [← hnc] at HND
  clear hnc
  by_cases hd : l2.Nodup
  rotate_left
  · rw [if_neg hd] at h
    simp only [Prod.mk.injEq] at h
    obtain ⟨rfl, rfl⟩ := h
    have hne : ¬ (nc : Int) = (l2.length : Int) := fun e => hd (HND.out.1 (by omega))
    have hne2 : ((nc : Int) == (l2.length : Int)) = false := beq_eq_false_iff_ne.2 hne
    have hne3 : ((nc : Int) != (l2.length : Int)) = true := by rw [bne, hne2]; rfl
    clear hd
    go_enter Tryz.func8, Tryz.ntmps8
    go_wp2_with (first | (go_at_call 20; (with_reducible refine HT.out.mono ?_); rintro e w1 ⟨rfl, hb⟩; have HB1 := Lib.hid (below_step HB0.out hb); have K1 := Lib.hid (blk_below K0.out hb); have hx1 : w1.cell? ⟨w.heap.size, 0, none⟩ = some (.slice A1 l1.length c1) := (blk_cell K1.out 0).trans rfl; clear hb) | (go_at_call 21; (with_reducible refine (HV.out _ HB1.out).mono ?_); rintro e w2 ⟨rfl, hb⟩; have HB2 := Lib.hid (below_step HB1.out hb); have K2 := Lib.hid (blk_below K1.out hb); clear hb hx1) | (go_at_call 22; go_loud ((with_reducible refine (HF.out _ HB2.out).mono ?_); rintro e w3 ⟨v3, rfl, hR, hb⟩; obtain ⟨AW, cW, eW⟩ := Kd.R_slice hR; rw [← HNW.out] at eW; subst eW; have HB3 := Lib.hid (below_step HB2.out hb); have K3 := Lib.hid (blk_below K2.out hb); have hCW := (Kd.R_reads' hR).2; have HCW := Lib.hid (show Kd.C Kd.string w3 AW nW ws from by rw [HNW.out]; exact hCW.2); have HCC := Lib.hid (show nW ≤ cW from hCW.1); clear hb hR hCW)) | (go_at_call 23; go_loud ((with_reducible refine (HCL.out _ HB3.out).mono ?_); rintro e w4 ⟨v4, rfl, hR, hb⟩; have H34 := Lib.hid hb; have HO4 := Lib.hid hR; clear hb hR)))
    have H35 := Lib.hid (below_alloc H34.out (.cells #[.slice AW nW cW] 37))
    have KA5 := Lib.hid (heap_alloc_new w4 (.cells #[.slice AW nW cW] 37))
    have HO5 := Lib.hid (Kd.R_alloc HO4.out (.cells #[.slice AW nW cW] 37))
    have NE4 := Lib.hid (box_far HO4.out)
    generalize w4.alloc (.cells #[.slice AW nW cW] 37) = w5 at H35 KA5 HO5 ⊢
    go_wp2_with (first | (go_at_call 24; (with_reducible refine (HSO.out _ _ _ HO5.out).mono ?_); rintro e w6 ⟨rfl, hR, hg⟩; have H36 := Lib.hid (below_grownV H35.out HO5.out hg); have KA6 := Lib.hid (blk_grown KA5.out hg NE4.out); have HO6 := Lib.hid hR; have HB6 := Lib.hid (below_step HB3.out H36.out); clear hR hg) | (go_at_call 25; (with_reducible refine (HF1.out _ _ _ _ HB6.out KA6.out (Kd.C_below HCW.out H36.out) HCC.out).mono ?_); rintro e w7 ⟨rfl, hb⟩; have H37 := Lib.hid (below_step H36.out hb); have KA7 := Lib.hid (blk_below KA6.out hb); have HO7 := Lib.hid (Kd.R_below HO6.out hb); have HB7 := Lib.hid (below_step HB6.out hb); clear hb) | (go_at_call 29; (with_reducible refine (HCO.out _ _ _ HO7.out).mono ?_); rintro e w8 ⟨u8, rfl, hR, hg⟩; have H38 := Lib.hid (below_grownV H37.out HO7.out hg); have KA8 := Lib.hid (blk_grown KA7.out hg NE4.out); have HB8 := Lib.hid (below_step HB3.out H38.out); have K8 := Lib.hid (blk_below K3.out H38.out); obtain ⟨AU, cU, eU⟩ := Kd.R_slice hR; rw [← HNC.out] at eU; subst eU; clear hR hg))
    go_ret2
    exact ⟨rfl, HB8.out⟩
  rw [if_pos hd] at h
  have heq : (nc : Int) = (l2.length : Int) := by have := HND.out.2 hd; omega
  have heq2 : ((nc : Int) == (l2.length : Int)) = true := beq_iff_eq.2 heq
  have heq3 : ((nc : Int) != (l2.length : Int)) = false := by rw [bne, heq2]; rfl
  clear hd
  have HF2 := Lib.hid (fun (g : Nat) (AW : Option Addr) (cW : Nat) (W : World) (hB : Below w.heap.size w W) (hg : W.heap[g]? = some (.cells #[.slice AW nW cW] 37 (0, 0))) (hg2 : W.heap[w.heap.size]? = some (.cells #[.slice A1 l1.length c1] 27 (0, 0))) (hr : Kd.C Kd.string W AW nW ws) (hc : nW ≤ cW) => (show Calls Tryz.prog 25 #[.slice A2 l2.length c2, .func (.func 30) #[] #[.pointer (some ⟨g, 0, none⟩), .pointer (some ⟨w.heap.size, 0, none⟩)]] W fun e w' => e = .returned (.bool (l2.any (fun x => !(whichTo l1 ws ws.length).contains x))) ∧ Below W.heap.size W w' from
    contains_func_int64 30 #[.pointer (some ⟨g, 0, none⟩), .pointer (some ⟨w.heap.size, 0, none⟩)] (fun x => !(whichTo l1 ws ws.length).contains x) l2 A2 c2 W (enters_of Tryz.func30 (by kernel_rfl) rfl) (Kd.C_below HR2.out hB) (fun x hx V hV => (impl_ShortenAt2.calls g w.heap.size AW cW ws A1 c1 l1 x V (by rw [← HNW.out]; exact (blk_cell (blk_below hg hV) 0).trans rfl) ((blk_cell (blk_below hg2 hV) 0).trans rfl) (by rw [← HNW.out]; exact Kd.C_below hr hV) (by rw [← HNW.out]; exact hc) (Kd.C_below HR1.out (below_step hB hV)) hc1 HWS.out hl1).mono (fun _ _ h => ⟨h.1, below_step hV h.2⟩))))
  rw [HWA.out] at HF2
  cases hb : l2.any (bareAt l1 ws) with
  | true =>
    rw [hb] at HF2 h
    simp only [if_true, Prod.mk.injEq] at h
    obtain ⟨rfl, rfl⟩ := h
    clear hb
    go_enter Tryz.func8, Tryz.ntmps8
    go_wp2_with (first | (go_at_call 20; (with_reducible refine HT.out.mono ?_); rintro e w1 ⟨rfl, hb⟩; have HB1 := Lib.hid (below_step HB0.out hb); have K1 := Lib.hid (blk_below K0.out hb); have hx1 : w1.cell? ⟨w.heap.size, 0, none⟩ = some (.slice A1 l1.length c1) := (blk_cell K1.out 0).trans rfl; clear hb) | (go_at_call 21; (with_reducible refine (HV.out _ HB1.out).mono ?_); rintro e w2 ⟨rfl, hb⟩; have HB2 := Lib.hid (below_step HB1.out hb); have K2 := Lib.hid (blk_below K1.out hb); clear hb hx1) | (go_at_call 22; go_loud ((with_reducible refine (HF.out _ HB2.out).mono ?_); rintro e w3 ⟨v3, rfl, hR, hb⟩; obtain ⟨AW, cW, eW⟩ := Kd.R_slice hR; rw [← HNW.out] at eW; subst eW; have HB3 := Lib.hid (below_step HB2.out hb); have K3 := Lib.hid (blk_below K2.out hb); have hCW := (Kd.R_reads' hR).2; have HCW := Lib.hid (show Kd.C Kd.string w3 AW nW ws from by rw [HNW.out]; exact hCW.2); have HCC := Lib.hid (show nW ≤ cW from hCW.1); clear hb hR hCW)) | (go_at_call 23; go_loud ((with_reducible refine (HCL.out _ HB3.out).mono ?_); rintro e w4 ⟨v4, rfl, hR, hb⟩; have H34 := Lib.hid hb; have HO4 := Lib.hid hR; clear hb hR)))
    have H35 := Lib.hid (below_alloc H34.out (.cells #[.slice AW nW cW] 37))
    have KA5 := Lib.hid (heap_alloc_new w4 (.cells #[.slice AW nW cW] 37))
    have HO5 := Lib.hid (Kd.R_alloc HO4.out (.cells #[.slice AW nW cW] 37))
    have NE4 := Lib.hid (box_far HO4.out)
    generalize w4.alloc (.cells #[.slice AW nW cW] 37) = w5 at H35 KA5 HO5 ⊢
    go_wp2_with (first | (go_at_call 24; (with_reducible refine (HSO.out _ _ _ HO5.out).mono ?_); rintro e w6 ⟨rfl, hR, hg⟩; have H36 := Lib.hid (below_grownV H35.out HO5.out hg); have KA6 := Lib.hid (blk_grown KA5.out hg NE4.out); have HO6 := Lib.hid hR; have HB6 := Lib.hid (below_step HB3.out H36.out); clear hR hg) | (go_at_call 25; (with_reducible refine (HF1.out _ _ _ _ HB6.out KA6.out (Kd.C_below HCW.out H36.out) HCC.out).mono ?_); rintro e w7 ⟨rfl, hb⟩; have H37 := Lib.hid (below_step H36.out hb); have KA7 := Lib.hid (blk_below KA6.out hb); have HO7 := Lib.hid (Kd.R_below HO6.out hb); have HB7 := Lib.hid (below_step HB6.out hb); clear hb) | (go_at_call 29; (with_reducible refine (HCO.out _ _ _ HO7.out).mono ?_); rintro e w8 ⟨u8, rfl, hR, hg⟩; have H38 := Lib.hid (below_grownV H37.out HO7.out hg); have KA8 := Lib.hid (blk_grown KA7.out hg NE4.out); have HB8 := Lib.hid (below_step HB3.out H38.out); have K8 := Lib.hid (blk_below K3.out H38.out); obtain ⟨AU, cU, eU⟩ := Kd.R_slice hR; rw [← HNC.out] at eU; subst eU; clear hR hg) | (go_at_call 25; (with_reducible refine (HF2.out _ _ _ _ HB8.out KA8.out K8.out (Kd.C_below HCW.out H38.out) HCC.out).mono ?_); rintro e w9 ⟨rfl, hb⟩; have HB9 := Lib.hid (below_step HB8.out hb); have KA9 := Lib.hid (blk_below KA8.out hb); have K9 := Lib.hid (blk_below K8.out hb); have HC9 := Lib.hid (Kd.C_below (Kd.C_below HCW.out H38.out) hb); have hy1 : w9.cell? ⟨w4.heap.size, 0, none⟩ = some (.slice AW nW cW) := (blk_cell KA9.out 0).trans rfl; have hy2 : w9.cell? ⟨w.heap.size, 0, none⟩ = some (.slice A1 l1.length c1) := (blk_cell K9.out 0).trans rfl; clear hb))
    go_ret2
    exact ⟨rfl, HB9.out⟩
  | false =>
  rw [hb] at HF2 h
  simp only [Bool.false_eq_true, if_false, Prod.mk.injEq] at h
  obtain ⟨rfl, rfl⟩ := h
  have HM := Lib.hid (show ∀ x ∈ l2, ∃ j : Nat, x = j ∧ j < ws.length from by
    intro x hx
    have h1 := List.any_eq_false.1 HO.out x hx
    unfold outOf at h1
    simp only [Bool.not_eq_true, Bool.not_eq_false', Bool.and_eq_true, decide_eq_true_iff] at h1
    exact ⟨x.toNat, by omega, by omega⟩)
  have HSV := Lib.hid (impl_shortened.valG ws l1 l2 (by omega) HWS.out hl2 HM.out (fun x hx => by have := HL6.out.2 x hx; omega) HZ.out K5 (by omega))
  clear hb
  go_enter Tryz.func8, Tryz.ntmps8
  go_wp2_with (first | (go_at_call 20; (with_reducible refine HT.out.mono ?_); rintro e w1 ⟨rfl, hb⟩; have HB1 := Lib.hid (below_step HB0.out hb); have K1 := Lib.hid (blk_below K0.out hb); have hx1 : w1.cell? ⟨w.heap.size, 0, none⟩ = some (.slice A1 l1.length c1) := (blk_cell K1.out 0).trans rfl; clear hb) | (go_at_call 21; (with_reducible refine (HV.out _ HB1.out).mono ?_); rintro e w2 ⟨rfl, hb⟩; have HB2 := Lib.hid (below_step HB1.out hb); have K2 := Lib.hid (blk_below K1.out hb); clear hb hx1) | (go_at_call 22; go_loud ((with_reducible refine (HF.out _ HB2.out).mono ?_); rintro e w3 ⟨v3, rfl, hR, hb⟩; obtain ⟨AW, cW, eW⟩ := Kd.R_slice hR; rw [← HNW.out] at eW; subst eW; have HB3 := Lib.hid (below_step HB2.out hb); have K3 := Lib.hid (blk_below K2.out hb); have hCW := (Kd.R_reads' hR).2; have HCW := Lib.hid (show Kd.C Kd.string w3 AW nW ws from by rw [HNW.out]; exact hCW.2); have HCC := Lib.hid (show nW ≤ cW from hCW.1); clear hb hR hCW)) | (go_at_call 23; go_loud ((with_reducible refine (HCL.out _ HB3.out).mono ?_); rintro e w4 ⟨v4, rfl, hR, hb⟩; have H34 := Lib.hid hb; have HO4 := Lib.hid hR; clear hb hR)))
  have H35 := Lib.hid (below_alloc H34.out (.cells #[.slice AW nW cW] 37))
  have KA5 := Lib.hid (heap_alloc_new w4 (.cells #[.slice AW nW cW] 37))
  have HO5 := Lib.hid (Kd.R_alloc HO4.out (.cells #[.slice AW nW cW] 37))
  have NE4 := Lib.hid (box_far HO4.out)
  generalize w4.alloc (.cells #[.slice AW nW cW] 37) = w5 at H35 KA5 HO5 ⊢
  go_wp2_with (first | (go_at_call 24; (with_reducible refine (HSO.out _ _ _ HO5.out).mono ?_); rintro e w6 ⟨rfl, hR, hg⟩; have H36 := Lib.hid (below_grownV H35.out HO5.out hg); have KA6 := Lib.hid (blk_grown KA5.out hg NE4.out); have HO6 := Lib.hid hR; have HB6 := Lib.hid (below_step HB3.out H36.out); clear hR hg) | (go_at_call 25; (with_reducible refine (HF1.out _ _ _ _ HB6.out KA6.out (Kd.C_below HCW.out H36.out) HCC.out).mono ?_); rintro e w7 ⟨rfl, hb⟩; have H37 := Lib.hid (below_step H36.out hb); have KA7 := Lib.hid (blk_below KA6.out hb); have HO7 := Lib.hid (Kd.R_below HO6.out hb); have HB7 := Lib.hid (below_step HB6.out hb); clear hb) | (go_at_call 29; (with_reducible refine (HCO.out _ _ _ HO7.out).mono ?_); rintro e w8 ⟨u8, rfl, hR, hg⟩; have H38 := Lib.hid (below_grownV H37.out HO7.out hg); have KA8 := Lib.hid (blk_grown KA7.out hg NE4.out); have HB8 := Lib.hid (below_step HB3.out H38.out); have K8 := Lib.hid (blk_below K3.out H38.out); obtain ⟨AU, cU, eU⟩ := Kd.R_slice hR; rw [← HNC.out] at eU; subst eU; clear hR hg) | (go_at_call 25; (with_reducible refine (HF2.out _ _ _ _ HB8.out KA8.out K8.out (Kd.C_below HCW.out H38.out) HCC.out).mono ?_); rintro e w9 ⟨rfl, hb⟩; have HB9 := Lib.hid (below_step HB8.out hb); have KA9 := Lib.hid (blk_below KA8.out hb); have K9 := Lib.hid (blk_below K8.out hb); have HC9 := Lib.hid (Kd.C_below (Kd.C_below HCW.out H38.out) hb); have hy1 : w9.cell? ⟨w4.heap.size, 0, none⟩ = some (.slice AW nW cW) := (blk_cell KA9.out 0).trans rfl; have hy2 : w9.cell? ⟨w.heap.size, 0, none⟩ = some (.slice A1 l1.length c1) := (blk_cell K9.out 0).trans rfl; clear hb) | (go_at_call 33; (with_reducible refine (show Calls Tryz.prog 33 #[.slice AW nW cW, .slice A1 l1.length c1, .slice A2 l2.length c2] w9 _ from by have h9 := impl_shortened.calls K5 AW cW ws A1 c1 l1 A2 c2 l2 (joinB (putL l1 ws l2) spB) w9 (by rw [← HNW.out]; exact HC9.out) (by rw [← HNW.out]; exact HCC.out) (Kd.C_below HR1.out HB9.out) hc1 (Kd.C_below HR2.out HB9.out) hc2 HSV.out; rw [← HNW.out] at h9; exact h9).mono ?_); rintro e w10 ⟨rfl, hb⟩; have HB10 := Lib.hid (below_step HB9.out hb); clear hb))
  go_ret2
  exact ⟨rfl, HB10.out⟩
end Go.Proofs.YtiapaggkbhdnkaaGreatDoor.Q
