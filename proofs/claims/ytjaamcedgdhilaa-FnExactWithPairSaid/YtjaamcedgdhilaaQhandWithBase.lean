/- WithPair: what it computes, in plain words; its closure. -/
import Derived.Test.YtjaamcedgdhilaaQlibSortP
import Derived.Test.YtjaamcedgdhilaaQhandLoosen
namespace Go.Proofs.Ytjaamcedgdhilaa.Q
open Go.RowKit Go.Proofs.YtjaamcedgdhilaaW.PrintWords Go.Proofs.YtjaamcedgdhilaaW.PrintLast Go.Proofs.YtjaamcedgdhilaaW.PrintMore
open Go.Proofs.Ytjaamcedgdhilaa.Pure Go.Sort
set_option linter.unusedVariables false
set_option linter.unusedSimpArgs false

def keyB (p x : S46) : Bool := decide (x.f0 = p.f0) && decide (x.f1 = p.f1)
theorem cfP_zero (p x : S46) : (cfP x p == 0) = keyB p x := by
  have h : impl_comparePairs.f 3 x.f0 x.f1 x.f2 p.f0 p.f1 p.f2 = some (cfP x p) := (cfP_spec x p).1
  unfold impl_comparePairs.f at h
  rw [cmp8_val, Option.bind_some, cmp8_val, Option.bind_some, or2_val, Option.bind_some, Option.some.injEq] at h
  rw [← h]
  unfold keyB
  rw [Bool.eq_iff_iff]
  simp only [beq_iff_eq, Bool.and_eq_true, decide_eq_true_eq]
  repeat' split
  all_goals omega
/-- The pairs with p put among them, as the reference does it. -/
def putGo (p : S46) (done : Bool) : List S46 → List S46
  | [] => if done then [] else [p]
  | x :: t => (if (!done && aheadP p x) = true then [p] else []) ++ (if keyB p x = true then [] else [x]) ++ putGo p (done || aheadP p x) t
def putP (p : S46) (l : List S46) : List S46 := putGo p (decide (p.f2 = 0)) l
def withR (ws : List Int) (sp gp : Int) (l : List S46) (p : S46) : Face × Int :=
  if validB ws sp gp l = true then (if (letB p.f0 && letB p.f1) = true then (if faceB ws sp gp (putP p l) = true then (if ((putP p l).length : Int) ≤ 12 then ((ws, sp, gp, putP p l), 0) else (noFace, 3)) else (noFace, 4)) else (noFace, 4)) else (noFace, 1)
theorem ahead_trans {x y z : S46} (h1 : aheadP x y = true) (h2 : aheadP y z = true) : aheadP x z = true := by
  unfold aheadP at *
  simp only [Bool.or_eq_true, Bool.and_eq_true, decide_eq_true_eq] at *
  omega
theorem ahead_asym {x y : S46} (h1 : aheadP x y = true) : aheadP y x = false := by
  unfold aheadP at *
  simp only [Bool.or_eq_true, Bool.and_eq_true, decide_eq_true_eq, Bool.or_eq_false_iff, Bool.and_eq_false_iff, decide_eq_false_iff_not] at *
  omega
theorem ahead_key {x y : S46} (h1 : aheadP x y = false) (h2 : aheadP y x = false) : x.f0 = y.f0 ∧ x.f1 = y.f1 := by
  unfold aheadP at *
  simp only [Bool.or_eq_false_iff, Bool.and_eq_false_iff, decide_eq_false_iff_not] at *
  omega
theorem key_iff {p x : S46} : keyB p x = true ↔ x.f0 = p.f0 ∧ x.f1 = p.f1 := by
  unfold keyB
  simp only [Bool.and_eq_true, decide_eq_true_eq]
theorem key_ahead {p x y : S46} (h : keyB p x = true) : aheadP x y = aheadP p y ∧ aheadP y x = aheadP y p := by
  obtain ⟨h1, h2⟩ := key_iff.1 h
  unfold aheadP
  rw [h1, h2]
  exact ⟨rfl, rfl⟩
/-- What valid pairs are: each ahead of all behind it. -/
theorem pairs_strict {gp : Int} {l : List S46} (h : pairsB gp l = true) : l.Pairwise (fun x y => aheadP x y = true) := by
  have hstep : ∀ i : Nat, 0 < i → i < l.length → aheadP (rd_T46 l ((i - 1 : Nat) : Int)) (rd_T46 l (i : Nat)) = true := by
    intro i h0 hi
    unfold pairsB at h
    rw [List.all_eq_true] at h
    have := h i (List.mem_range.2 hi)
    unfold pairB at this
    simp only [Bool.and_eq_true, Bool.or_eq_true, decide_eq_true_eq] at this
    rcases this.2 with h1 | h1
    · omega
    · exact h1
  rw [List.pairwise_iff_getElem]
  have key : ∀ d i : Nat, (hi : i + d + 1 < l.length) → aheadP (l[i]'(by omega)) (l[i + d + 1]'hi) = true := by
    intro d
    induction d with
    | zero =>
      intro i hi
      have := hstep (i + 1) (by omega) hi
      rw [Nat.add_sub_cancel, rd46_get _ _ (by omega), rd46_get _ _ hi] at this
      exact this
    | succ d ih =>
      intro i hi
      have h1 := ih i (by omega)
      have h2 := hstep (i + d + 1 + 1) (by omega) (by omega)
      rw [Nat.add_sub_cancel, rd46_get _ _ (by omega), rd46_get _ _ (by omega)] at h2
      exact ahead_trans h1 h2
  intro i j hi hj hij
  have := key (j - i - 1) i (by omega)
  have e : i + (j - i - 1) + 1 = j := by omega
  simp only [e] at this
  exact this
theorem putGo_done (p : S46) : ∀ l : List S46, putGo p true l = l.filter (fun x => !keyB p x)
  | [] => rfl
  | x :: t => by
    rw [putGo, Bool.not_true, Bool.false_and, if_neg (by decide), Bool.true_or, putGo_done p t, List.filter_cons]
    by_cases h : keyB p x = true
    · rw [if_pos h]; simp [h]
    · rw [if_neg h]; simp [h]
theorem putGo_perm (p : S46) : ∀ l : List S46, (putGo p false l).Perm (l.filter (fun x => !keyB p x) ++ [p])
  | [] => List.Perm.refl _
  | x :: t => by
    rw [putGo, Bool.not_false, Bool.true_and, Bool.false_or, List.filter_cons]
    have hx : (if keyB p x = true then [] else [x]) ++ t.filter (fun x => !keyB p x) = (if (!keyB p x) = true then x :: t.filter (fun x => !keyB p x) else t.filter (fun x => !keyB p x)) := by
      by_cases h : keyB p x = true
      · rw [if_pos h]; simp [h]
      · rw [if_neg h]; simp [h]
    rw [← hx]
    by_cases ha : aheadP p x = true
    · rw [if_pos ha, ha, putGo_done]
      rw [List.append_assoc]
      exact List.perm_append_comm
    · have ha2 : aheadP p x = false := by simpa using ha
      rw [if_neg ha, ha2, List.nil_append, List.append_assoc]
      exact (putGo_perm p t).append_left _
theorem putGo_sorted (p : S46) : ∀ l : List S46, l.Pairwise (fun x y => aheadP x y = true) → (putGo p false l).Pairwise (fun x y => aheadP x y = true) ∧ ∀ z ∈ putGo p false l, z = p ∨ z ∈ l
  | [], _ => ⟨List.pairwise_singleton .., fun z hz => .inl (List.mem_singleton.1 hz)⟩
  | x :: t, h => by
    obtain ⟨h1, h2⟩ := List.pairwise_cons.1 h
    rw [putGo, Bool.not_false, Bool.true_and, Bool.false_or]
    by_cases ha : aheadP p x = true
    · have hk : keyB p x = false := by
        apply Bool.eq_false_iff.2
        intro hk
        have := (key_ahead (y := p) hk).1
        have h3 := (key_ahead (y := x) hk).2
        have h4 := ahead_asym ha
        obtain ⟨e1, e2⟩ := key_iff.1 hk
        unfold aheadP at ha
        rw [e1, e2] at ha
        simp at ha
      rw [if_pos ha, hk, ha, if_neg (by decide), putGo_done]
      have hf : t.filter (fun x => !keyB p x) = t.filter (fun x => !keyB p x) := rfl
      refine ⟨?_, fun z hz => ?_⟩
      · show (p :: x :: t.filter _).Pairwise _
        refine List.pairwise_cons.2 ⟨fun z hz => ?_, List.pairwise_cons.2 ⟨fun z hz => h1 z (List.mem_filter.1 hz).1, List.Pairwise.sublist List.filter_sublist h2⟩⟩
        rcases List.mem_cons.1 hz with rfl | hz
        · exact ha
        · exact ahead_trans ha (h1 z (List.mem_filter.1 hz).1)
      · have hz' : z ∈ p :: x :: t.filter (fun x => !keyB p x) := hz
        rcases List.mem_cons.1 hz' with rfl | hz'
        · exact .inl rfl
        · rcases List.mem_cons.1 hz' with rfl | hz'
          · exact .inr (List.mem_cons_self ..)
          · exact .inr (List.mem_cons_of_mem _ (List.mem_filter.1 hz').1)
    · have ha2 : aheadP p x = false := by simpa using ha
      obtain ⟨g1, g2⟩ := putGo_sorted p t h2
      rw [if_neg ha, ha2, List.nil_append]
      by_cases hk : keyB p x = true
      · rw [if_pos hk, List.nil_append]
        exact ⟨g1, fun z hz => (g2 z hz).imp id (List.mem_cons_of_mem _)⟩
      · rw [if_neg hk]
        have hxp : aheadP x p = true := by
          cases hn : aheadP x p with
          | true => rfl
          | false => exact absurd (key_iff.2 (ahead_key hn ha2)) hk
        refine ⟨List.pairwise_cons.2 ⟨fun z hz => ?_, g1⟩, fun z hz => ?_⟩
        · rcases g2 z hz with rfl | hz
          · exact hxp
          · exact h1 z hz
        · rcases List.mem_cons.1 hz with rfl | hz
          · exact .inr (List.mem_cons_self ..)
          · exact (g2 z hz).imp id (List.mem_cons_of_mem _)
theorem putP_sort {p : S46} {l l' : List S46} (h : l.Pairwise (fun x y => aheadP x y = true)) (hz : p.f2 ≠ 0) (hp : l'.Perm (l.filter (fun x => !keyB p x) ++ [p])) (hs : l'.Pairwise (fun x y => aheadP y x = false)) : l' = putP p l := by
  unfold putP
  rw [decide_eq_false hz]
  obtain ⟨g1, g2⟩ := putGo_sorted p l h
  have g3 := putGo_perm p l
  refine List.Perm.eq_of_pairwise (le := fun x y => aheadP y x = false) ?_ hs (g1.imp fun h => ahead_asym h) (hp.trans g3.symm)
  intro a b ha hb h1 h2
  have hk := ahead_key h2 h1
  have ha' := hp.mem_iff.1 ha
  have hb' := g3.mem_iff.1 hb
  have hab : ∀ x y : S46, x ∈ l → y ∈ l → x.f0 = y.f0 → x.f1 = y.f1 → x = y := by
    intro x y hx hy e1 e2
    obtain ⟨i, hi, rfl⟩ := List.mem_iff_getElem.1 hx
    obtain ⟨j, hj, rfl⟩ := List.mem_iff_getElem.1 hy
    have hw := List.pairwise_iff_getElem.1 h
    rcases Nat.lt_trichotomy i j with hij | hij | hij
    · have := hw i j hi hj hij
      unfold aheadP at this
      rw [e1, e2] at this
      simp at this
    · subst hij; rfl
    · have := hw j i hj hi hij
      unfold aheadP at this
      rw [e1, e2] at this
      simp at this
  have hno : ∀ x ∈ l.filter (fun x => !keyB p x), ¬ (x.f0 = p.f0 ∧ x.f1 = p.f1) := by
    intro x hx hk
    have := (List.mem_filter.1 hx).2
    rw [key_iff.2 hk] at this
    exact absurd this (by decide)
  rcases List.mem_append.1 ha' with ha' | ha' <;> rcases List.mem_append.1 hb' with hb' | hb'
  · exact hab a b (List.mem_filter.1 ha').1 (List.mem_filter.1 hb').1 hk.1 hk.2
  · rw [List.mem_singleton.1 hb'] at hk
    exact absurd hk (hno a ha')
  · rw [List.mem_singleton.1 ha'] at hk
    exact absurd ⟨hk.1.symm, hk.2.symm⟩ (hno b hb')
  · rw [List.mem_singleton.1 ha', List.mem_singleton.1 hb']
theorem putP_zero {p : S46} {l : List S46} (hz : p.f2 = 0) : putP p l = l.filter (fun x => !keyB p x) := by
  unfold putP
  rw [decide_eq_true hz, putGo_done]
theorem putGo_len (p : S46) : ∀ (l : List S46) (done : Bool), (putGo p done l).length ≤ l.length + 1
  | [], done => by unfold putGo; split <;> simp
  | x :: t, done => by
    rw [putGo]
    cases done with
    | true =>
      have := putGo_len p t true
      rw [Bool.not_true, Bool.false_and, if_neg (by decide), Bool.true_or]
      simp only [List.length_append, List.length_cons, List.length_nil]
      split <;> simp <;> omega
    | false =>
      rw [Bool.not_false, Bool.true_and, Bool.false_or]
      by_cases ha : aheadP p x = true
      · rw [if_pos ha, ha, putGo_done]
        have := List.length_filter_le (fun x => !keyB p x) t
        simp only [List.length_append, List.length_cons, List.length_nil]
        split <;> simp <;> omega
      · rw [if_neg ha, show aheadP p x = false by simpa using ha]
        have := putGo_len p t false
        simp only [List.length_append, List.length_cons, List.length_nil]
        split <;> simp <;> omega
theorem putGo_mem (p : S46) : ∀ (l : List S46) (done : Bool), ∀ z ∈ putGo p done l, z = p ∨ z ∈ l
  | [], done, z, hz => by
    unfold putGo at hz
    split at hz
    · cases hz
    · exact .inl (List.mem_singleton.1 hz)
  | x :: t, done, z, hz => by
    rw [putGo] at hz
    rcases List.mem_append.1 hz with hz | hz
    · rcases List.mem_append.1 hz with hz | hz
      · split at hz
        · exact .inl (List.mem_singleton.1 hz)
        · cases hz
      · split at hz
        · cases hz
        · rw [List.mem_singleton.1 hz]; exact .inr (List.mem_cons_self ..)
    · exact (putGo_mem p t _ z hz).imp id (List.mem_cons_of_mem _)
theorem fit_put {ws : List Int} {sp gp : Int} {l : List S46} {p : S46} (h : Fit ws sp gp l) (hp : -128 ≤ p.f2 ∧ p.f2 ≤ 127) : Fit ws sp gp (putP p l) :=
  ⟨h.ws, h.sp, h.gp, fun k hk => by
    have hm := putGo_mem p l (decide (p.f2 = 0)) (putP p l)[k] (List.getElem_mem hk)
    rw [rd46_get _ _ hk]
    rcases hm with hm | hm
    · rw [hm]; exact hp
    · obtain ⟨j, hj, e⟩ := List.mem_iff_getElem.1 hm
      have := h.pr j hj
      rw [rd46_get _ _ hj, e] at this
      exact this⟩
theorem valid_pairs {ws : List Int} {sp gp : Int} {l : List S46} (h : validB ws sp gp l = true) : pairsB gp l = true ∧ l.length ≤ 12 := by
  unfold validB faceB at h
  simp only [Bool.and_eq_true, decide_eq_true_eq] at h
  exact ⟨h.1.1.1.2, by omega⟩
set_option maxHeartbeats 1000000 in
theorem closure44 (p x : S46) (gp : Nat) (W : World) (hg : W.heap[gp]? = some (.cells #[.int .u8 p.f0, .int .u8 p.f1, .int .i8 p.f2] 46)) :
    Calls Try.prog 44 #[.agg #[.int .u8 x.f0, .int .u8 x.f1, .int .i8 x.f2], .pointer (some ⟨gp, 0, none⟩)] W fun e w' => e = .returned (.bool (keyB p x)) ∧ Below W.heap.size W w' := by
  have HA := Lib.hid (below_alloc (Below.refl W.heap.size W) (.cells #[.int .u8 x.f0, .int .u8 x.f1, .int .i8 x.f2] 46))
  have hg2 : (W.alloc (.cells #[.int .u8 x.f0, .int .u8 x.f1, .int .i8 x.f2] 46)).heap[gp]? = some (.cells #[.int .u8 p.f0, .int .u8 p.f1, .int .i8 p.f2] 46) := (HA.out.block gp (blk_lt hg)).trans hg
  have c0 : (W.alloc (.cells #[.int .u8 x.f0, .int .u8 x.f1, .int .i8 x.f2] 46)).cell? ⟨gp, 0, none⟩ = some (.int .u8 p.f0) := (blk_cell hg2 0).trans rfl
  have c1 : (W.alloc (.cells #[.int .u8 x.f0, .int .u8 x.f1, .int .i8 x.f2] 46)).cell? ⟨gp, 1, none⟩ = some (.int .u8 p.f1) := (blk_cell hg2 1).trans rfl
  have c2 : (W.alloc (.cells #[.int .u8 x.f0, .int .u8 x.f1, .int .i8 x.f2] 46)).cell? ⟨gp, 2, none⟩ = some (.int .i8 p.f2) := (blk_cell hg2 2).trans rfl
  have HC := Lib.hid (fun W => impl_comparePairs.calls 3 x.f0 x.f1 x.f2 p.f0 p.f1 p.f2 (cfP x p) W (cfP_spec x p).1)
  have hz := cfP_zero p x
  obtain ⟨r, hr⟩ : ∃ r, r = cfP x p := ⟨_, rfl⟩
  rw [← hr] at HC hz
  have HZ := Lib.hid hz
  clear hr hz hg hg2
  go_enter Try.func44, Try.ntmps44
  go_wp2_with (go_at_call 45; refine (HC.out _).mono ?_; rintro e w' ⟨rfl, hb⟩; have HB2 := Lib.hid (below_step HA.out hb); clear hb)
  go_ret
  exact ⟨by rw [← HZ.out]; rfl, HB2.out⟩
end Go.Proofs.Ytjaamcedgdhilaa.Q
