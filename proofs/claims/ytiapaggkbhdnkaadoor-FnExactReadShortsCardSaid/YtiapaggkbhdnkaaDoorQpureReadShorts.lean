/- Shorts, read from a text: program and reference alike; the law ReadShorts holds. -/
import Derived.Test.YtiapaggkbhdnkaaDoorQpureSplit
import Derived.Test.YtiapaggkbhdnkaaDoorQpureShortsText
import Derived.Test.YtiapaggkbhdnkaaDoorQpureMarkS
import Derived.Test.YtiapaggkbhdnkaaDoorQlawsFnExactReadShorts
namespace Go.Proofs.YtiapaggkbhdnkaaDoor.Q
open Go.RowKit Go.Proofs.YtiapaggkbhdnkaaDoorW.PrintWords Go.Proofs.YtiapaggkbhdnkaaDoorW.PrintLast Go.Proofs.YtiapaggkbhdnkaaDoorW.PrintMore
open Go.Proofs.YtiapaggkbhdnkaaDoor.Pure
set_option linter.unusedVariables false

theorem word_no (a : ByteArray) (h : (61 : UInt8) ∈ a.data.toList) : wordB a = false := by
  obtain ⟨i, hi⟩ := List.getElem?_of_mem h
  have hlt : i < a.size := by
    have := (List.getElem?_eq_some_iff.1 hi).1
    rw [data_length] at this
    exact this
  have hb := (bt_list a i hlt 61).1 hi
  have : (List.range a.size).all (fun i => isL (bt a i)) = false := by
    rw [List.all_eq_false]
    exact ⟨i, List.mem_range.2 hlt, by rw [hb]; decide⟩
  unfold wordB
  rw [this]
  rfl
theorem word_none : wordB ⟨#[]⟩ = false := rfl

def pairOf (w : ByteArray) : ISh := ⟨⟨(Lib.cut w.data.toList [61]).1.toArray⟩, ⟨(Lib.cut w.data.toList [61]).2.1.toArray⟩⟩
theorem cut_miss (l : List UInt8) (c : UInt8) (h : Lib.index l [c] = -1) : Lib.cut l [c] = (l, [], false) := by
  unfold Lib.cut
  rw [if_neg (by omega)]
theorem cut_hit (l : List UInt8) (c : UInt8) (i : Nat) (h : Lib.index l [c] = i) : Lib.cut l [c] = (l.take i, l.drop (i + 1), true) := by
  unfold Lib.cut
  rw [if_pos (by omega), h]
  rfl
theorem pairOf_size (w : ByteArray) : (pairOf w).f0.size ≤ w.size ∧ (pairOf w).f1.size ≤ w.size := by
  have e : ∀ l : List UInt8, (⟨l.toArray⟩ : ByteArray).size = l.length := fun l => by simp [ByteArray.size]
  have hw : w.size = w.data.toList.length := (data_length w).symm
  have e0 : (pairOf w).f0.size = (Lib.cut w.data.toList [61]).1.length := e _
  have e1 : (pairOf w).f1.size = (Lib.cut w.data.toList [61]).2.1.length := e _
  rw [e0, e1, hw]
  rcases first_at 61 w.data.toList with ⟨h1, h2⟩ | ⟨i, h1, h2, h3, h4⟩
  · rw [cut_miss _ _ h1]
    exact ⟨Nat.le_refl _, Nat.zero_le _⟩
  · rw [cut_hit _ _ i h1]
    exact ⟨by rw [List.length_take]; omega, by rw [List.length_drop]; omega⟩
theorem pair_two (w : ByteArray) : (∃ a b, cutsB 61 w = [a, b] ∧ pairOf w = ⟨a, b⟩) ∨ ((cutsB 61 w).length ≠ 2 ∧ wordB (pairOf w).f1 = false) := by
  rcases first_at 61 w.data.toList with ⟨h1, h2⟩ | ⟨i, h1, h2, h3, h4⟩
  · refine Or.inr ⟨?_, ?_⟩
    · unfold cutsB
      rw [cutAt_none 61 _ _ h2]
      simp
    · unfold pairOf
      rw [cut_miss _ _ h1]
      exact word_none
  · have ec : cutAt 61 [] w.data.toList = w.data.toList.take i :: cutAt 61 [] (w.data.toList.drop (i + 1)) := by
      conv => lhs; rw [h2, cutAt_hit 61 _ _ [] h3]
      rfl
    by_cases hm : (61 : UInt8) ∈ w.data.toList.drop (i + 1)
    · refine Or.inr ⟨?_, ?_⟩
      · unfold cutsB
        rw [ec]
        rcases first_at 61 (w.data.toList.drop (i + 1)) with ⟨_, hn⟩ | ⟨j, _, g2, g3, _⟩
        · exact absurd hm hn
        · rw [g2, cutAt_hit 61 _ _ [] g3]
          have := cutAt_len 61 ((w.data.toList.drop (i + 1)).drop (j + 1)) []
          simp only [List.map_cons, List.length_cons, List.length_map]
          omega
      · unfold pairOf
        rw [cut_hit _ _ i h1]
        exact word_no _ hm
    · refine Or.inl ⟨⟨(w.data.toList.take i).toArray⟩, ⟨(w.data.toList.drop (i + 1)).toArray⟩, ?_, ?_⟩
      · unfold cutsB
        rw [ec, cutAt_none 61 _ _ hm]
        rfl
      · unfold pairOf
        rw [cut_hit _ _ i h1]

theorem shortsB_no (l : List ISh) (i : Nat) (hi : i < l.length) (h : wordB l[i].f1 = false) : shortsB l = false := by
  have : (List.range l.length).all (stSh l) = false := by
    rw [List.all_eq_false]
    refine ⟨i, List.mem_range.2 hi, ?_⟩
    unfold stSh okSh
    rw [rdISh_get _ _ hi, h]
    simp
  unfold shortsB
  rw [this]
  rfl

def ansR (a : ByteArray) : List ISh × Int := if a.toList = [] then ([], 0) else if shortsB ((cutsB 32 a).map pairOf) = true then ((cutsB 32 a).map pairOf, 0) else ([], 5)
theorem ansR_len (a : ByteArray) : (ansR a).1.length ≤ a.size + 1 := by
  unfold ansR
  have := cutsB_len 32 a
  split
  · exact Nat.zero_le _
  · split
    · simpa using this.2
    · exact Nat.zero_le _

theorem impl_ReadShorts.val (a : ByteArray) (ha : a.size ≤ 1048576) (k : Nat) (hk : 4000000 ≤ k) : impl_ReadShorts.f k a = some (ansR a) := by
  unfold impl_ReadShorts.f ansR
  rw [Option.bind_some]
  by_cases h0 : a.toList = []
  · rw [if_pos h0, if_pos h0]
  · rw [if_neg h0, if_neg h0, strings_Split.val a 32 (by omega), Option.bind_some]
    have hl := cutsB_len 32 a
    have hm := cutsB_mem 32 a
    generalize cutsB 32 a = ws at hl hm
    have := scan_inv (n := ws.length) (M := 2000000) (l := fun k i (x : List ISh) => impl_ReadShorts.l0 k x ws (ws.length : Int) i) (at_ := fun i => (ws.take i).map pairOf) (r := if shortsB (ws.map pairOf) = true then (ws.map pairOf, 0) else ([], 5)) (fun k i hi _ => ?_) (fun k hM => ?_) k (by omega)
    · simpa using this
    · simp only [impl_ReadShorts.l0]
      have hz := hm _ (List.getElem_mem hi)
      have h1 : ((ws.take i).map pairOf).length = i := by simp; omega
      have hc : strings_Cut.f ws[i] ⟨#[61]⟩ = some ((pairOf ws[i]).f0, (pairOf ws[i]).f1, (Lib.cut ws[i].data.toList [61]).2.2) := by
        unfold strings_Cut.f
        rw [if_pos (by omega)]
        rfl
      rw [rdOf_get _ _ _ hi, if_pos (by omega), if_pos (by omega), if_pos (by omega), hc, Option.bind_some, if_pos (by omega), wrap_succ hi (by omega), take_succ' ws i hi, List.map_append]
      rfl
    · simp only [impl_ReadShorts.l0]
      rw [if_neg (by omega), List.take_length, impl_ValidShorts.val _ (by rw [List.length_map]; omega) k (by rw [List.length_map]; omega), Option.bind_some]
      by_cases hs : shortsB (ws.map pairOf) = true
      · rw [if_pos hs, if_pos hs]
      · rw [if_neg hs, if_neg hs]

theorem spec_ReadShorts.val (a : ByteArray) (ha : a.size ≤ 1048576) (k : Nat) (hk : 8000000 ≤ k) : spec_ReadShorts.f k a = some (ansR a) := by
  unfold spec_ReadShorts.f ansR
  rw [Option.bind_some]
  by_cases h0 : a.toList = []
  · rw [if_pos h0, if_pos h0]
  · have hsp : spec_l01Split.f k a 32 = some (cutsB 32 a) := spec_l01Split.val a 32 (by omega) k (by omega)
    rw [if_neg h0, if_neg h0, hsp, Option.bind_some]
    clear hsp
    have hl := cutsB_len 32 a
    have hm := cutsB_mem 32 a
    generalize cutsB 32 a = ws at hl hm
    have hws : (ws.map pairOf).length = ws.length := List.length_map ..
    have hsz : ∀ x ∈ ws.map pairOf, x.f0.size ≤ 1048576 ∧ x.f1.size ≤ 1048576 := fun x hx => by
      obtain ⟨y, hy, rfl⟩ := List.mem_map.1 hx
      have h1 := pairOf_size y
      have h2 := hm y hy
      omega
    have key : ∀ d i k, i + d = ws.length → d + 4000000 < k → spec_ReadShorts.l0 k ((ws.take i).map pairOf) ws (i : Int) = some (if shortsB (ws.map pairOf) = true then (ws.map pairOf, 0) else ([], 5)) := by
      intro d
      induction d with
      | zero =>
        intro i k hi hk
        obtain ⟨k, rfl⟩ : ∃ m, k = m + 1 := ⟨k - 1, by omega⟩
        obtain rfl : i = ws.length := by omega
        have hv := spec_l02Shorts.val (ws.map pairOf) (by omega) 1048576 hsz (by omega) k (by omega)
        simp only [spec_ReadShorts.l0]
        rw [if_neg (by omega), List.take_length, hv, Option.bind_some]
        by_cases hs : shortsB (ws.map pairOf) = true
        · rw [if_pos hs, if_pos hs]
        · rw [if_neg hs, if_neg hs]
      | succ d ih =>
        intro i k hi hk
        obtain ⟨k, rfl⟩ : ∃ m, k = m + 1 := ⟨k - 1, by omega⟩
        have hlt : i < ws.length := by omega
        have hz := hm _ (List.getElem_mem hlt)
        have h1 : ((ws.take i).map pairOf).length = i := by simp; omega
        have hsp : spec_l01Split.f k ws[i] 61 = some (cutsB 61 ws[i]) := spec_l01Split.val ws[i] 61 (by omega) k (by omega)
        simp only [spec_ReadShorts.l0]
        rw [rdOf_get _ _ _ hlt, if_pos (by omega), if_pos (by omega), hsp, Option.bind_some]
        clear hsp
        rcases pair_two ws[i] with ⟨x, y, g1, g2⟩ | ⟨g1, g2⟩
        · have g3 : (⟨rdOf ByteArray.empty [x, y] 0, rdOf ByteArray.empty [x, y] 1⟩ : ISh) = pairOf ws[i] := g2.symm
          rw [g1, g3, if_pos (by simp), if_pos (by simp), if_pos (by simp), if_pos (by omega), wrap_succ hlt (by omega)]
          have := ih (i + 1) k (by omega) (by omega)
          rw [take_succ' ws i hlt, List.map_append] at this
          exact this
        · rw [if_neg (by omega), if_neg (by
            rw [shortsB_no (ws.map pairOf) i (by omega) (by rw [List.getElem_map]; exact g2)]
            decide)]
    have := key ws.length 0 k (by omega) (by omega)
    simpa using this

noncomputable def markSh (j : Nat) : ISh := ⟨markV ((2 * j + 1 : Nat) : Int), markV ((2 * j + 2 : Nat) : Int)⟩
noncomputable def marksSh (n : Nat) : List ISh := (List.range n).map markSh
theorem marksSh_len (n : Nat) : (marksSh n).length = n := by simp [marksSh]
theorem marksSh_step (xs : List ISh) (i : Nat) (h : i < xs.length) : (marksSh i ++ xs.drop i).set i (markSh i) = marksSh (i + 1) ++ xs.drop (i + 1) := by
  rw [List.set_append_right _ _ (by rw [marksSh_len]; exact Nat.le_refl _), marksSh_len, Nat.sub_self, List.drop_eq_getElem_cons h, List.set_cons_zero]
  simp [marksSh, List.range_succ]
theorem laws_markShortS.val (l : List ISh) (hl : l.length ≤ 1048577) (k : Nat) (hk : l.length + 21 < k) : laws_markShortS.f k l 1 = some (((2 * l.length + 1 : Nat) : Int), marksSh l.length) := by
  unfold laws_markShortS.f
  have := scan_inv (n := l.length) (M := 21) (l := fun k i (x : Int × List ISh) => laws_markShortS.l0 k x.2 x.1 i) (at_ := fun i => (((2 * i + 1 : Nat) : Int), marksSh i ++ l.drop i)) (r := (((2 * l.length + 1 : Nat) : Int), marksSh l.length)) (fun k i hi hM => ?_) (fun k hM => ?_) k (by omega)
  · simpa [marksSh] using this
  · have hlen : (marksSh i ++ l.drop i).length = l.length := by rw [List.length_append, marksSh_len, List.length_drop]; omega
    simp only [laws_markShortS.l0]
    have w1 : wrap64 (((2 * i + 1 : Nat) : Int) + 1) = ((2 * i + 2 : Nat) : Int) := by rw [wrap_id (by omega) (by omega)]; omega
    have w2 : wrap64 (((2 * i + 2 : Nat) : Int) + 1) = ((2 * (i + 1) + 1 : Nat) : Int) := by rw [wrap_id (by omega) (by omega)]; omega
    rw [hlen, if_pos (by omega), markV_spec _ (by omega) k (by omega), w1, w2, markV_spec ((2 * i + 2 : Nat) : Int) (by omega) k (by omega)]
    simp only [Option.bind_some]
    rw [if_pos (by omega), Int.toNat_natCast, rdISh_get ((marksSh i ++ l.drop i).set i _) i (by rw [List.length_set, hlen]; exact hi), List.getElem_set_self, List.set_set, wrap_succ hi (by omega)]
    have := marksSh_step l i hi
    rw [← this]
    rfl
  · have hlen : (marksSh l.length ++ l.drop l.length).length = l.length := by rw [List.length_append, marksSh_len, List.length_drop]; omega
    simp only [laws_markShortS.l0]
    rw [hlen, if_neg (by omega)]
    simp
theorem laws_heldShortS.val (n : Nat) (hl : n ≤ 1048577) (k : Nat) (hk : n + 21 < k) : laws_heldShortS.f k (marksSh n) 1 = some ((2 * n + 1 : Nat) : Int) := by
  unfold laws_heldShortS.f
  have := scan_inv (n := n) (M := 21) (l := fun k i (x : Int) => laws_heldShortS.l0 k (marksSh n) x i) (at_ := fun i => ((2 * i + 1 : Nat) : Int)) (r := ((2 * n + 1 : Nat) : Int)) (fun k i hi hM => ?_) (fun k hM => ?_) k (by omega)
  · simpa using this
  · simp only [laws_heldShortS.l0]
    have w1 : wrap64 (((2 * i + 1 : Nat) : Int) + 1) = ((2 * i + 2 : Nat) : Int) := by rw [wrap_id (by omega) (by omega)]; omega
    have w2 : wrap64 (((2 * i + 2 : Nat) : Int) + 1) = ((2 * (i + 1) + 1 : Nat) : Int) := by rw [wrap_id (by omega) (by omega)]; omega
    have hg : rd_T51 (marksSh n) (i : Int) = markSh i := by
      rw [rdISh_get _ _ (by rw [marksSh_len]; exact hi)]
      simp [marksSh]
    rw [marksSh_len, if_pos (by omega), if_pos (by omega), markV_spec _ (by omega) k (by omega), hg, w1, w2, markV_spec ((2 * i + 2 : Nat) : Int) (by omega) k (by omega), wrap_succ hi (by omega)]
    simp [markSh]
  · simp only [laws_heldShortS.l0]
    rw [marksSh_len, if_neg (by omega)]

theorem laws_FnExactReadShorts.holds (a : ByteArray) (W : World) (hG : Glob W) (ha : a.size ≤ 9223372036854775807) :
    Calls Tryd.prog 5 #[.string a] W fun e w' => e = .returned (.bool true) ∧ Below W.heap.size W w' := by
  obtain ⟨K, hK⟩ : ∃ K, K = 8000010 := ⟨_, rfl⟩
  refine laws_FnExactReadShorts.calls (K + 2) a true W hG ?_
  unfold laws_FnExactReadShorts.f
  by_cases h : (a.size : Int) > 1048576
  · rw [if_pos h]
  rw [if_neg h]
  have hlen := ansR_len a
  have e3 : ∀ k, 8000000 ≤ k → laws_eqShortS.f k (ansR a).1 (ansR a).1 = some true := fun k hk => at_rounds (laws_eqShortS.mono (ansR a).1 (ansR a).1) (by omega) (laws_eqShortS.val_self (ansR a).1 (by omega))
  have e4 : ∀ k, 8000000 ≤ k → impl_ReadShorts.f k a = some (ansR a) := fun k hk => impl_ReadShorts.val a (by omega) k (by omega)
  have e5 : ∀ k, 8000000 ≤ k → spec_ReadShorts.f k a = some (ansR a) := fun k hk => spec_ReadShorts.val a (by omega) k hk
  generalize hq : ansR a = q at *
  have e6 : ∀ k, 8000000 ≤ k → laws_markShortS.f k q.1 1 = some (((2 * q.1.length + 1 : Nat) : Int), marksSh q.1.length) := fun k hk => laws_markShortS.val q.1 (by omega) k (by omega)
  have e7 : ∀ k, 8000000 ≤ k → laws_heldShortS.f k (marksSh q.1.length) 1 = some ((2 * q.1.length + 1 : Nat) : Int) := fun k hk => laws_heldShortS.val q.1.length (by omega) k (by omega)
  rw [e5 _ (by omega)]
  simp only [Option.bind_some]
  rw [e4 _ (by omega)]
  simp only [Option.bind_some]
  rw [e3 _ (by omega)]
  simp only [Option.bind_some, if_true, bne_self_eq_false]
  show laws_FnExactReadShorts.j0 (K + 1 + 1) _ _ _ _ _ = _
  rw [laws_FnExactReadShorts.j0]
  simp only [Bool.false_eq_true, if_false]
  rw [e6 _ (by omega)]
  simp only [Option.bind_some]
  rw [e7 _ (by omega)]
  simp only [Option.bind_some, if_true]
  rw [if_neg (by omega), e4 _ (by omega)]
  simp only [Option.bind_some]
  rw [e3 _ (by omega)]
  simp only [Option.bind_some, if_true, bne_self_eq_false]
  show laws_FnExactReadShorts.j1 (K + 1) _ _ _ = _
  rw [laws_FnExactReadShorts.j1]
  simp only [Bool.false_eq_true, if_false]
  rw [e7 _ (by omega)]
  simp only [Option.bind_some, if_true]
  rw [if_neg (by omega)]
end Go.Proofs.YtiapaggkbhdnkaaDoor.Q
