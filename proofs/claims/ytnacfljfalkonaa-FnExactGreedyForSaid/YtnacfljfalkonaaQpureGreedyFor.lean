/- The law on GreedyFor: program and reference take the same parts, one after the other. -/
import Derived.Test.YtnacfljfalkonaaQhandSpecGreedy
import Derived.Test.YtnacfljfalkonaaQlawsFnExactGreedyFor
import Derived.Test.YtnacfljfalkonaaQpureFit
import Derived.Test.YtnacfljfalkonaaOpenSystem
namespace Go.Proofs.Ytnacfljfalkonaa.Q
open Go.RowKit Go.Proofs.YtnacfljfalkonaaW.PrintWords Go.Proofs.YtnacfljfalkonaaW.PrintLast Go.Proofs.YtnacfljfalkonaaW.PrintMore
open Go.Proofs.Ytnacfljfalkonaa.Pure
set_option linter.unusedVariables false

theorem rdQ_get (xs : List S46) (k : Nat) (h : k < xs.length) : rd_T46 xs (k : Int) = xs[k] := by
  unfold rd_T46
  simp [List.getD_eq_getElem?_getD, h]
theorem rdP_get (xs : List S52) (k : Nat) (h : k < xs.length) : rd_T52 xs (k : Int) = xs[k] := by
  unfold rd_T52
  simp [List.getD_eq_getElem?_getD, h]
def cvP (x : S46) : S52 := ⟨x.f0, x.f1⟩
theorem pieces_cv (s : List SG) (m : List MP) : piecesP s m = (piecesQ s m).map cvP := by
  unfold piecesP piecesQ
  rw [List.map_append, List.map_map, List.map_map]
  rfl
theorem bestTo_le (L : List S46) (n : Int) (p : Nat) (h : 0 ≤ bestTo L n p) : (rd_T46 L (bestTo L n p)).f1 ≤ n := by
  induction p with
  | zero => simp [bestTo] at h
  | succ p ih =>
    rw [bestTo_succ] at h ⊢
    split
    · rename_i hc
      exact hc.1
    · rename_i hc
      rw [if_neg hc] at h
      exact ih h
theorem bestTo_ex (L : List S46) (n : Int) (j p : Nat) (hj : j < p) (h : (rd_T46 L (j : Int)).f1 ≤ n) : 0 ≤ bestTo L n p := by
  induction p with
  | zero => omega
  | succ p ih =>
    rw [bestTo_succ]
    split
    · omega
    · rename_i hc
      by_cases e : j = p
      · subst e
        by_cases h0 : bestTo L n j < 0
        · exact absurd ⟨h, Or.inl h0⟩ hc
        · omega
      · exact ih (by omega)
/-- All pieces are worth something, and short; one is worth 1. -/
def fineL (L : List S46) : Prop := (∀ p : Nat, p < L.length → 1 ≤ (rd_T46 L (p : Int)).f1 ∧ (rd_T46 L (p : Int)).f0.size ≤ 2) ∧ ∃ p : Nat, p < L.length ∧ (rd_T46 L (p : Int)).f1 = 1
theorem nums_size (xs : List Int) : (strOfNums xs).size = xs.length := by simp [strOfNums, ByteArray.size]
theorem fine_pieces {s : List SG} {m : List MP} (h : okB s m = true) : fineL (piecesQ s m) := by
  unfold okB headB at h
  simp only [Bool.and_eq_true, decide_eq_true_eq, List.all_eq_true, List.mem_range] at h
  obtain ⟨⟨⟨⟨⟨h1, h2⟩, h3⟩, h4⟩, hs⟩, hm⟩ := h
  refine ⟨fun p hp => ?_, s.length - 1, ?_, ?_⟩
  · rw [rdQ_get _ _ hp]
    unfold piecesQ at hp ⊢
    rw [List.length_append, List.length_map, List.length_map] at hp
    by_cases hc : p < s.length
    · rw [List.getElem_append_left (by rw [List.length_map]; exact hc), List.getElem_map]
      have := hs p hc
      unfold sgB rngB at this
      simp only [Bool.and_eq_true, decide_eq_true_eq] at this
      rw [rdSG_get _ _ hc] at this
      refine ⟨this.1.1.2.1, ?_⟩
      show (strOfNums _).size ≤ 2
      rw [nums_size]
      simp
    · rw [List.getElem_append_right (by rw [List.length_map]; omega), List.getElem_map]
      have hq : p - (s.map sgQ).length < m.length := by rw [List.length_map]; omega
      have := hm _ hq
      unfold mpB at this
      simp only [Bool.and_eq_true, decide_eq_true_eq] at this
      rw [rdA2_get _ _ hq] at this
      refine ⟨?_, ?_⟩
      · show 1 ≤ valB s _ - valB s _
        have := this.1.2
        omega
      · show (strOfNums _).size ≤ 2
        rw [nums_size]
        simp
  · unfold piecesQ
    rw [List.length_append, List.length_map]
    omega
  · rw [rdQ_get _ _ (by unfold piecesQ; rw [List.length_append, List.length_map]; omega)]
    unfold piecesQ
    rw [List.getElem_append_left (by rw [List.length_map]; omega), List.getElem_map]
    rw [rdSG_get _ _ (by omega)] at h4
    exact h4
theorem pieces_short {s : List SG} {m : List MP} (h : okB s m = true) : (piecesQ s m).length ≤ 16 := by
  unfold okB headB at h
  simp only [Bool.and_eq_true, decide_eq_true_eq] at h
  unfold piecesQ
  rw [List.length_append, List.length_map, List.length_map]
  omega
/-- What the program carries through its loop over parts. -/
def bestX (L : List S46) (n : Int) (p : Nat) : ByteArray × Int := if bestTo L n p < 0 then (⟨#[]⟩, 0) else ((rd_T46 L (bestTo L n p)).f0, (rd_T46 L (bestTo L n p)).f1)
def endX (q : Nat) (n : Int) (o : ByteArray) (s : List SG) (m : List MP) (x : ByteArray × Int) : Option (ByteArray × Int) := if o.size + x.1.size ≤ 9223372036854775807 then (if ((o ++ x.1).size : Int) > 16 then some (⟨#[]⟩, 3) else impl_GreedyFor.l0 q (wrap64 (n - x.2)) (o ++ x.1) s m) else none
theorem impl_inner {L : List S46} (hL : fineL L) (hl : L.length ≤ 1000) (s : List SG) (m : List MP) (n : Int) (o : ByteArray) : ∀ d q p, p + d = L.length →
    impl_GreedyFor.l1 (q + d + 1) n o (L.map cvP) (L.length : Int) (p : Int) s m (bestX L n p).1 (bestX L n p).2 = endX q n o s m (bestX L n L.length) := by
  intro d
  induction d with
  | zero =>
    intro q p hp
    obtain rfl : p = L.length := by omega
    rw [impl_GreedyFor.l1, if_neg (by omega)]
    rfl
  | succ d ih =>
    intro q p hp
    have ew : wrap64 ((p : Int) + 1) = ((p + 1 : Nat) : Int) := by rw [wrap_id (by omega) (by omega)]; omega
    have er : rd_T52 (L.map cvP) (p : Int) = cvP (rd_T46 L (p : Int)) := by
      rw [rdP_get _ _ (by rw [List.length_map]; omega), List.getElem_map, rdQ_get _ _ (by omega)]
    have hv := (hL.1 p (by omega)).1
    have ih2 := ih q (p + 1) (by omega)
    have hr := bestTo_range L n p
    rw [show q + (d + 1) + 1 = (q + d + 1) + 1 by omega, impl_GreedyFor.l1, if_pos (by omega), if_pos (by omega), if_pos (by rw [List.length_map]; omega), er, ew]
    show (if (rd_T46 L (p : Int)).f1 ≤ n then (if (rd_T46 L (p : Int)).f1 > (bestX L n p).2 then impl_GreedyFor.l1 (q + d + 1) n o (L.map cvP) (L.length : Int) ((p + 1 : Nat) : Int) s m (rd_T46 L (p : Int)).f0 (rd_T46 L (p : Int)).f1 else _) else _) = _
    by_cases h1 : (rd_T46 L (p : Int)).f1 ≤ n
    · rw [if_pos h1]
      by_cases h2 : bestTo L n p < 0
      · have e1 : bestX L n p = (⟨#[]⟩, 0) := if_pos h2
        have e2 : bestTo L n (p + 1) = (p : Int) := by rw [bestTo_succ, if_pos ⟨h1, Or.inl h2⟩]
        have e3 : bestX L n (p + 1) = ((rd_T46 L (p : Int)).f0, (rd_T46 L (p : Int)).f1) := by unfold bestX; rw [e2, if_neg (by omega)]
        rw [e3] at ih2
        rw [e1, if_pos (show (rd_T46 L (p : Int)).f1 > 0 by omega)]
        exact ih2
      · have e1 : bestX L n p = ((rd_T46 L (bestTo L n p)).f0, (rd_T46 L (bestTo L n p)).f1) := if_neg h2
        by_cases h3 : (rd_T46 L (p : Int)).f1 > (rd_T46 L (bestTo L n p)).f1
        · have e2 : bestTo L n (p + 1) = (p : Int) := by rw [bestTo_succ, if_pos ⟨h1, Or.inr h3⟩]
          have e3 : bestX L n (p + 1) = ((rd_T46 L (p : Int)).f0, (rd_T46 L (p : Int)).f1) := by unfold bestX; rw [e2, if_neg (by omega)]
          rw [e3] at ih2
          rw [e1, if_pos h3]
          exact ih2
        · have e2 : bestTo L n (p + 1) = bestTo L n p := by rw [bestTo_succ, if_neg (fun hh => hh.2.elim h2 h3)]
          have e3 : bestX L n (p + 1) = bestX L n p := by unfold bestX; rw [e2]
          rw [e3] at ih2
          rw [if_neg (by rw [e1]; exact h3)]
          exact ih2
    · have e2 : bestTo L n (p + 1) = bestTo L n p := by rw [bestTo_succ, if_neg (fun hh => h1 hh.1)]
      have e3 : bestX L n (p + 1) = bestX L n p := by unfold bestX; rw [e2]
      rw [e3] at ih2
      rw [if_neg h1]
      exact ih2
theorem greedy_both {s : List SG} {m : List MP} (ok : okB s m = true) (hp : impl_System_parts.f s m = some (piecesP s m)) : ∀ (q : Nat) (n : Int) (o : ByteArray), 0 ≤ n → n ≤ 10000 → n < q → o.size ≤ 16 →
    ∃ r, grS q (piecesQ s m) n o = some r ∧ impl_GreedyFor.l0 (q * ((piecesQ s m).length + 2)) n o s m = some r := by
  have hL := fine_pieces ok
  have hl := pieces_short ok
  obtain ⟨L, eL⟩ : ∃ L, L = piecesQ s m := ⟨_, rfl⟩
  have hp2 : impl_System_parts.f s m = some (L.map cvP) := by rw [hp, pieces_cv, eL]
  rw [← eL] at hL hl ⊢
  intro q
  induction q with
  | zero => intro n o h0 h1 h2; omega
  | succ q ih =>
    intro n o h0 h1 h2 h3
    rw [show (q + 1) * (L.length + 2) = (q * (L.length + 2) + L.length + 1) + 1 by rw [Nat.succ_mul]; omega, impl_GreedyFor.l0]
    simp only [grS]
    by_cases hn : n > 0
    · obtain ⟨j, hj, ej⟩ := hL.2
      have hb := bestTo_ex L n j L.length hj (by omega)
      have hle := bestTo_le L n L.length hb
      have hr := bestTo_range L n L.length
      obtain ⟨b, eb⟩ : ∃ b : Nat, bestTo L n L.length = (b : Int) := ⟨(bestTo L n L.length).toNat, by omega⟩
      have hX : bestX L n L.length = ((rd_T46 L (b : Int)).f0, (rd_T46 L (b : Int)).f1) := by unfold bestX; rw [if_neg (by omega), eb]
      rw [eb] at hle hr
      obtain ⟨v1, v2⟩ := hL.1 b (by omega)
      have hw : wrap64 (n - (rd_T46 L (b : Int)).f1) = n - (rd_T46 L (b : Int)).f1 := wrap_id (by omega) (by omega)
      rw [if_pos (show 0 < n from hn), if_pos hn, if_pos hb, eb, if_pos (by omega), hp2, Option.bind_some]
      rw [List.length_map]
      have hin := impl_inner hL (by omega) s m n o L.length (q * (L.length + 2)) 0 (by omega)
      rw [hX] at hin
      have e0 : bestX L n 0 = (⟨#[]⟩, 0) := rfl
      rw [e0] at hin
      rw [show impl_GreedyFor.l1 (q * (L.length + 2) + L.length + 1) n o (L.map cvP) (L.length : Int) 0 s m ⟨#[]⟩ 0 = _ from hin]
      unfold endX
      dsimp only
      rw [if_pos (show o.size + (rd_T46 L (b : Int)).f0.size ≤ 9223372036854775807 by omega)]
      by_cases h16 : 16 < (o ++ (rd_T46 L (b : Int)).f0).size
      · rw [if_pos h16, if_pos (by omega)]
        exact ⟨_, rfl, rfl⟩
      · rw [if_neg h16, if_neg (by omega), hw]
        exact ih (n - (rd_T46 L (b : Int)).f1) _ (by omega) (by omega) (by omega) (by omega)
    · rw [if_neg (show ¬ 0 < n from hn), if_neg hn]
      exact ⟨_, rfl, rfl⟩
theorem greedy_same (s : List SG) (m : List MP) (n : Int) (hs : s.length ≤ 1048576) (hm : m.length ≤ 1048576) (hf : (s.all (fun x => decide (-32768 ≤ x.f1) && decide (x.f1 ≤ 32767))) = true) (k : Nat) (hk : 2097160 ≤ k) :
    ∃ r, spec_GreedyFor.f s m n = some r ∧ impl_GreedyFor.f k s m n = some r := by
  unfold spec_GreedyFor.f impl_GreedyFor.f
  rw [show spec_l03Ok.f s m = some (okB s m) from if_pos ⟨hs, hm, hf⟩, show impl_ValidSystem.f s m = some (okB s m) from if_pos ⟨hs, hm, hf⟩, Option.bind_some, Option.bind_some]
  cases ok : okB s m
  · exact ⟨_, rfl, rfl⟩
  rw [if_pos rfl, if_pos rfl]
  have hp : impl_System_parts.f s m = some (piecesP s m) := if_pos ⟨hs, hm, hf⟩
  have hq : spec_l03Pieces.f s m = some (piecesQ s m) := if_pos ⟨hs, hm, hf⟩
  unfold spec_l03Number.f spec_l00In.f impl_within.f
  by_cases h0 : 0 ≤ n
  · rw [if_pos (show n ≥ 0 from h0)]
    by_cases h1 : n ≤ 10000
    · rw [decide_eq_true h1]
      simp only [Option.bind_some, if_true, hq]
      obtain ⟨r, e1, e2⟩ := greedy_both ok hp 10002 n ⟨#[]⟩ h0 h1 (by omega) (by decide)
      have hl := pieces_short ok
      exact ⟨r, e1, at_rounds (fun j => (impl_GreedyFor.mono_l j).1 n ⟨#[]⟩ s m) (by omega) e2⟩
    · rw [decide_eq_false h1]
      exact ⟨_, rfl, rfl⟩
  · rw [if_neg (show ¬ n ≥ 0 from h0)]
    exact ⟨_, rfl, rfl⟩
theorem laws_FnExactGreedyFor.pure (a : List LSG) (b : List MP) (n : Int) (ha : a.length ≤ 9223372036854775807) (hb : b.length ≤ 9223372036854775807) (hw : ∀ z ∈ a, (Lit.int .u8 z.f0).wf = true ∧ (Lit.int .i16 z.f1).wf = true) (k : Nat) (hk : 2097170 ≤ k) : laws_FnExactGreedyFor.f k a b n = some true := by
  obtain ⟨k, rfl⟩ : ∃ j, k = j + 1 := ⟨k - 1, by omega⟩
  unfold laws_FnExactGreedyFor.f
  obtain ⟨r1, e1, h1⟩ := laws_szSystem.val a b ha hb 1048576 (by omega) (by omega)
  rw [e1, Option.bind_some]
  by_cases n1 : r1 < 0
  · rw [if_pos n1]
  rw [if_neg n1]
  have la := toS_len a
  have hf := toS_fit a hw
  have T1 := laws_toSystem.val a b (by omega) (by omega) (k + 1) (by omega) (by omega)
  have T0 := laws_toSystem.val a b (by omega) (by omega) k (by omega) (by omega)
  obtain ⟨r, g1, g2⟩ := greedy_same (toS a) b n (by omega) (by omega) hf (k + 1) (by omega)
  simp only [T1, Option.bind_some, laws_FnExactGreedyFor.j0, T0, g1, g2]
  rw [if_pos trivial, if_neg (by simp), laws_eqSystem.refl (toS a) b (by omega) (by omega) k (by omega) (by omega), Option.bind_some, if_pos rfl]
theorem laws_FnExactGreedyFor.holds (W : World) {a0 : List LSG × List MP} {cs0 : List Value} (n : Int) (h0 : Open.kSys.K W a0 cs0) (g0 : (∀ z ∈ a0.1, (Lit.int .u8 z.f0).wf = true ∧ (Lit.int .i16 z.f1).wf = true) ∧ (∀ z ∈ a0.2, (Lit.int .u8 z.f0).wf = true ∧ (Lit.int .u8 z.f1).wf = true)) :
    Calls Try.prog 3 #[.agg cs0.toArray, .int .i64 n] W fun e w' => e = .returned (.bool true) ∧ Below W.heap.size W w' := by
  obtain ⟨A, c, B, d, rfl, p1, p2, p3, p4⟩ := Open.kSys_open h0
  exact laws_FnExactGreedyFor.calls 2097170 A c a0.1 B d a0.2 n true W p2 p1 p4 p3 (laws_FnExactGreedyFor.pure _ _ _ (Kd.C_max p2) (Kd.C_max p4) g0.1 _ (Nat.le_refl _))
end Go.Proofs.Ytnacfljfalkonaa.Q
