/- CountRight: what the tables of followers hold, and the counts; plain. -/
import Derived.Test.YtnacfljfalkonaaQspecl03Next
import Derived.Test.YtnacfljfalkonaaQimplbuilderOf
import Derived.Test.YtnacfljfalkonaaQpurePieceF
namespace Go.Proofs.Ytnacfljfalkonaa.Q
open Go.RowKit Go.Proofs.YtnacfljfalkonaaW.PrintWords Go.Proofs.YtnacfljfalkonaaW.PrintLast Go.Proofs.YtnacfljfalkonaaW.PrintMore
open Go.Proofs.Ytnacfljfalkonaa.Pure
set_option linter.unusedVariables false
set_option linter.unusedSimpArgs false

def pairB (m : List MP) (a b : Int) : Bool := m.any (fun p => decide (p.f0 = a) && decide (p.f1 = b))
theorem pairB_cons (p : MP) (m : List MP) (a b : Int) : pairB (p :: m) a b = ((decide (p.f0 = a) && decide (p.f1 = b)) || pairB m a b) := by simp [pairB]
theorem spec_l03Pair.val (s : List SG) (m : List MP) (a b : Int) (hm : m.length ≤ 1048576) (k : Nat) (hk : m.length < k) : spec_l03Pair.f k s m a b = some (pairB m a b) := by
  unfold spec_l03Pair.f
  have key : ∀ d i k, i + d = m.length → d < k → spec_l03Pair.l0 k a b (i : Nat) s m = some (pairB (m.drop i) a b) := by
    intro d
    induction d with
    | zero =>
      intro i k hi hk
      obtain ⟨k, rfl⟩ : ∃ j, k = j + 1 := ⟨k - 1, by omega⟩
      simp only [spec_l03Pair.l0]
      rw [if_neg (by omega), List.drop_of_length_le (by omega)]
      rfl
    | succ d ih =>
      intro i k hi hk
      obtain ⟨k, rfl⟩ : ∃ j, k = j + 1 := ⟨k - 1, by omega⟩
      have hlt : i < m.length := by omega
      simp only [spec_l03Pair.l0]
      rw [if_pos (by omega), if_pos (by omega), rdA2_get _ _ hlt, List.drop_eq_getElem_cons hlt, pairB_cons, wrap_succ hlt (by omega), ih (i + 1) k (by omega) (by omega)]
      by_cases h1 : m[i].f0 = a
      · by_cases h2 : m[i].f1 = b <;> simp [h1, h2]
      · simp [h1]
  exact key m.length 0 k (by omega) hk
theorem slices_Index_uint8.val (m : List MP) (a b : Int) (hm : m.length ≤ 1048576) (k : Nat) (hk : m.length < k) : ∃ r, slices_Index_uint8.f k m a b = some r ∧ decide (r ≥ 0) = pairB m a b := by
  unfold slices_Index_uint8.f
  have key : ∀ d i k, i + d = m.length → d < k → ∃ r, slices_Index_uint8.l0 k m (m.length : Int) (i : Nat) a b = some r ∧ decide (r ≥ 0) = pairB (m.drop i) a b := by
    intro d
    induction d with
    | zero =>
      intro i k hi hk
      obtain ⟨k, rfl⟩ : ∃ j, k = j + 1 := ⟨k - 1, by omega⟩
      simp only [slices_Index_uint8.l0]
      rw [if_neg (by omega), List.drop_of_length_le (by omega)]
      exact ⟨-1, rfl, rfl⟩
    | succ d ih =>
      intro i k hi hk
      obtain ⟨k, rfl⟩ : ∃ j, k = j + 1 := ⟨k - 1, by omega⟩
      have hlt : i < m.length := by omega
      simp only [slices_Index_uint8.l0]
      rw [if_pos (by omega), if_pos (by omega), if_pos (by omega), rdA2_get _ _ hlt, List.drop_eq_getElem_cons hlt, pairB_cons, wrap_succ hlt (by omega)]
      by_cases h : (a == m[i].f0 && (b == m[i].f1)) = true
      · rw [if_pos h]
        simp only [Bool.and_eq_true, beq_iff_eq] at h
        exact ⟨i, rfl, by rw [decide_eq_true h.1.symm, decide_eq_true h.2.symm]; simp⟩
      · rw [if_neg h]
        obtain ⟨r, h1, h2⟩ := ih (i + 1) k (by omega) (by omega)
        refine ⟨r, h1, ?_⟩
        rw [h2]
        have : (decide (m[i].f0 = a) && decide (m[i].f1 = b)) = false := by
          rw [Bool.eq_false_iff]
          intro hc
          simp only [Bool.and_eq_true, decide_eq_true_iff] at hc
          exact h (by simp [hc.1, hc.2])
        rw [this, Bool.false_or]
  exact key m.length 0 k (by omega) hk
theorem impl_System_isMinus.val (s : List SG) (m : List MP) (a b : Int) (hm : m.length ≤ 1048576) (k : Nat) (hk : m.length < k) : impl_System_isMinus.f k s m a b = some (pairB m a b) := by
  unfold impl_System_isMinus.f slices_Contains_uint8.f
  obtain ⟨r, h1, h2⟩ := slices_Index_uint8.val m a b hm k hk
  rw [h1, Option.bind_some, Option.bind_some, h2]


def fB (m : List MP) (a b : S46) : Bool := decide (b.f1 ≤ a.f1) && (decide ((a.f0.size : Int) = 2) || !pairB m (bt a.f0 0) (bt b.f0 0))
def nx (m : List MP) (L : List S46) (last p : Nat) : Bool := if last = L.length then true else fB m (rd_T46 L (last : Int)) (rd_T46 L (p : Int))
def nextQ (m : List MP) (L : List S46) : List (List Bool) := (List.range' 0 (L.length + 1)).map fun last => (List.range' 0 L.length).map (nx m L last)
structure OkL (L : List S46) : Prop where
  len : L.length ≤ 16
  val : ∀ p : Nat, p < L.length → 1 ≤ (rd_T46 L (p : Int)).f1 ∧ (rd_T46 L (p : Int)).f1 ≤ 65535
  siz : ∀ p : Nat, p < L.length → 1 ≤ (rd_T46 L (p : Int)).f0.size ∧ (rd_T46 L (p : Int)).f0.size ≤ 2
theorem next_inner {L : List S46} (hL : OkL L) (s : List SG) (m : List MP) (hm : m.length ≤ 1048576) (last : Nat) (hlast : last ≤ L.length) (out : List (List Bool)) (ho : out.length = last) (k' : Nat) (hk : m.length < k') : ∀ d p row, p + d = L.length → row.length = p →
    spec_l03Next.l1 (k' + d + 1) L out (last : Nat) row (p : Nat) s m = spec_l03Next.l0 k' L (out ++ [row ++ (List.range' p d).map (nx m L last)]) ((last + 1 : Nat) : Int) s m := by
  have hl16 := hL.len
  intro d
  induction d with
  | zero =>
    intro p row hp hr
    rw [spec_l03Next.l1]
    rw [if_neg (by omega), if_pos (by omega), wrap_succ (n := 20) (by omega) (by omega)]
    simp
  | succ d ih =>
    intro p row hp hr
    have hlt : p < L.length := by omega
    have hs := hL.siz p hlt
    show spec_l03Next.l1 ((k' + d + 1) + 1) L out (last : Nat) row (p : Nat) s m = _
    rw [spec_l03Next.l1]
    rw [if_pos (by omega)]
    have key : ∀ v : Bool, nx m L last p = v → spec_l03Next.l1 (k' + d + 1) L out (last : Nat) (row ++ [v]) (wrap64 ((p : Int) + 1)) s m = spec_l03Next.l0 k' L (out ++ [row ++ (List.range' p (d + 1)).map (nx m L last)]) ((last + 1 : Nat) : Int) s m := by
      intro v hv
      rw [wrap_succ hlt (by omega), ih (p + 1) (row ++ [v]) (by omega) (by simp [hr]), List.range'_succ, List.map_cons, hv, List.append_assoc]
      rfl
    by_cases h1 : last = L.length
    · rw [if_pos (by omega), if_pos (by omega)]
      have e : ((last : Int) == (L.length : Int)) = true := by rw [h1]; simp
      rw [e]
      exact key true (by unfold nx; rw [if_pos h1])
    · have hll : last < L.length := by omega
      have hsl := hL.siz last hll
      rw [if_neg (by omega), if_pos (by omega), if_pos (by omega), if_pos (by omega)]
      have hnx : nx m L last p = fB m (rd_T46 L (last : Int)) (rd_T46 L (p : Int)) := by unfold nx; rw [if_neg h1]
      by_cases h2 : (rd_T46 L (p : Int)).f1 ≤ (rd_T46 L (last : Int)).f1
      · rw [if_pos h2]
        by_cases h3 : ((rd_T46 L (last : Int)).f0.size : Int) = 2
        · rw [if_pos h3, if_pos (by omega)]
          exact key true (by rw [hnx]; unfold fB; rw [decide_eq_true h2, decide_eq_true h3]; rfl)
        · rw [if_neg h3, if_pos (by omega), if_pos (by omega), spec_l03Pair.val s m _ _ hm _ (by omega), Option.bind_some, if_pos (by omega)]
          exact key _ (by rw [hnx]; unfold fB; rw [decide_eq_true h2, decide_eq_false h3]; simp)
      · rw [if_neg h2, if_pos (by omega)]
        exact key false (by rw [hnx]; unfold fB; rw [decide_eq_false h2]; rfl)
theorem next_outer {L : List S46} (hL : OkL L) (s : List SG) (m : List MP) (hm : m.length ≤ 1048576) (k' : Nat) (hk : m.length < k') : ∀ d last out, last + d = L.length + 1 → out.length = last →
    spec_l03Next.l0 (k' + d * (L.length + 2) + 1) L out (last : Nat) s m = some (out ++ (List.range' last d).map fun last => (List.range' 0 L.length).map (nx m L last)) := by
  have hl16 := hL.len
  intro d
  induction d with
  | zero =>
    intro last out hp hr
    rw [spec_l03Next.l0]
    rw [if_neg (by omega)]
    simp
  | succ d ih =>
    intro last out hp hr
    rw [spec_l03Next.l0]
    rw [if_pos (by omega)]
    have e : k' + (d + 1) * (L.length + 2) = (k' + d * (L.length + 2) + 1) + L.length + 1 := by rw [Nat.succ_mul]; omega
    rw [e]
    have := next_inner hL s m hm last (by omega) out hr (k' + d * (L.length + 2) + 1) (by omega) L.length 0 [] (by omega) rfl
    rw [show ((0 : Nat) : Int) = 0 from rfl] at this
    rw [this, ih (last + 1) _ (by omega) (by simp [hr]), List.range'_succ, List.map_cons, List.append_assoc]
    rfl
theorem spec_l03Next.val {L : List S46} (hL : OkL L) (s : List SG) (m : List MP) (hm : m.length ≤ 1048576) : ∃ k, spec_l03Next.f k s m L = some (nextQ m L) := by
  refine ⟨(m.length + 1) + (L.length + 1) * (L.length + 2) + 1, ?_⟩
  unfold spec_l03Next.f
  have := next_outer hL s m hm (m.length + 1) (by omega) (L.length + 1) 0 [] (by omega) rfl
  rw [show ((0 : Nat) : Int) = 0 from rfl] at this
  rw [this]
  rfl

theorem cv_rd (L : List S46) (k : Nat) (h : k < L.length) : rd_T52 (L.map cvP) (k : Int) = cvP (rd_T46 L (k : Int)) := by
  rw [rdP_get _ _ (by rw [List.length_map]; exact h), rdQ_get _ _ h, List.getElem_map]
def ownP (m : List MP) (L : List S46) (k : Nat) : List Int := ((List.range' 0 L.length).filter fun (q : Nat) => fB m (rd_T46 L (k : Int)) (rd_T46 L (q : Int))).map fun (q : Nat) => (q : Int)
def nextP (m : List MP) (L : List S46) : List (List Int) := (List.range' 0 L.length).map (ownP m L)
theorem build_inner {L : List S46} (hL : OkL L) (s : List SG) (m : List MP) (hm : m.length ≤ 1048576) (kk : Nat) (hkk : kk < L.length) (x1 : List (List Int)) (ho : x1.length = kk) (k' : Nat) (hk : m.length < k') : ∀ d p own, p + d = L.length → own.length ≤ p →
    impl_builderOf.l1 (k' + d + 1) own (L.map cvP) (L.length : Int) (kk : Nat) (L.map cvP) (L.length : Int) (p : Nat) s m (L.map cvP) x1 (rd_T46 L (kk : Int)).f0 (rd_T46 L (kk : Int)).f1 = impl_builderOf.l0 k' (L.map cvP) (L.length : Int) ((kk + 1 : Nat) : Int) s m (L.map cvP) (x1 ++ [own ++ ((List.range' p d).filter fun (q : Nat) => fB m (rd_T46 L (kk : Int)) (rd_T46 L (q : Int))).map fun (q : Nat) => (q : Int)]) := by
  have hl16 := hL.len
  have hlm : (L.map cvP).length = L.length := List.length_map ..
  have hsl := hL.siz kk hkk
  intro d
  induction d with
  | zero =>
    intro p own hp hr
    rw [impl_builderOf.l1]
    rw [if_neg (by omega), if_pos (by omega), wrap_succ (n := 20) (by omega) (by omega)]
    simp
  | succ d ih =>
    intro p own hp hr
    have hlt : p < L.length := by omega
    have hs := hL.siz p hlt
    show impl_builderOf.l1 ((k' + d + 1) + 1) own (L.map cvP) (L.length : Int) (kk : Nat) (L.map cvP) (L.length : Int) (p : Nat) s m (L.map cvP) x1 (rd_T46 L (kk : Int)).f0 (rd_T46 L (kk : Int)).f1 = _
    rw [impl_builderOf.l1]
    rw [if_pos (by omega), if_pos (by omega), if_pos (by omega), cv_rd L p hlt]
    show (if (rd_T46 L (p : Int)).f1 ≤ (rd_T46 L (kk : Int)).f1 then _ else _) = _
    have keyT : fB m (rd_T46 L (kk : Int)) (rd_T46 L (p : Int)) = true → impl_builderOf.l1 (k' + d + 1) (own ++ [(p : Int)]) (L.map cvP) (L.length : Int) (kk : Nat) (L.map cvP) (L.length : Int) (wrap64 ((p : Int) + 1)) s m (L.map cvP) x1 (rd_T46 L (kk : Int)).f0 (rd_T46 L (kk : Int)).f1 = impl_builderOf.l0 k' (L.map cvP) (L.length : Int) ((kk + 1 : Nat) : Int) s m (L.map cvP) (x1 ++ [own ++ ((List.range' p (d + 1)).filter fun (q : Nat) => fB m (rd_T46 L (kk : Int)) (rd_T46 L (q : Int))).map fun (q : Nat) => (q : Int)]) := by
      intro hv
      rw [wrap_succ hlt (by omega), ih (p + 1) (own ++ [(p : Int)]) (by omega) (by simp; omega), List.range'_succ, List.filter_cons, if_pos hv, List.map_cons, List.append_assoc]
      rfl
    have keyF : fB m (rd_T46 L (kk : Int)) (rd_T46 L (p : Int)) = false → impl_builderOf.l1 (k' + d + 1) own (L.map cvP) (L.length : Int) (kk : Nat) (L.map cvP) (L.length : Int) (wrap64 ((p : Int) + 1)) s m (L.map cvP) x1 (rd_T46 L (kk : Int)).f0 (rd_T46 L (kk : Int)).f1 = impl_builderOf.l0 k' (L.map cvP) (L.length : Int) ((kk + 1 : Nat) : Int) s m (L.map cvP) (x1 ++ [own ++ ((List.range' p (d + 1)).filter fun (q : Nat) => fB m (rd_T46 L (kk : Int)) (rd_T46 L (q : Int))).map fun (q : Nat) => (q : Int)]) := by
      intro hv
      rw [wrap_succ hlt (by omega), ih (p + 1) own (by omega) (by omega), List.range'_succ, List.filter_cons, if_neg (by rw [hv]; decide)]
    by_cases h2 : (rd_T46 L (p : Int)).f1 ≤ (rd_T46 L (kk : Int)).f1
    · rw [if_pos h2]
      by_cases h3 : ((rd_T46 L (kk : Int)).f0.size : Int) = 2
      · rw [if_pos h3, if_pos (by omega)]
        exact keyT (by unfold fB; rw [decide_eq_true h2, decide_eq_true h3]; rfl)
      · rw [if_neg h3, if_pos (by omega)]
        show (if 0 < ((rd_T46 L (p : Int)).f0.size : Int) then (impl_System_isMinus.f (k' + d + 1) s m (bt (rd_T46 L (kk : Int)).f0 0) (bt (rd_T46 L (p : Int)).f0 0)).bind _ else _) = _
        rw [if_pos (by omega), impl_System_isMinus.val s m _ _ hm _ (by omega), Option.bind_some]
        cases hp2 : pairB m (bt (rd_T46 L (kk : Int)).f0 0) (bt (rd_T46 L (p : Int)).f0 0) with
        | true =>
          rw [if_pos rfl]
          exact keyF (by unfold fB; rw [decide_eq_true h2, decide_eq_false h3, hp2]; rfl)
        | false =>
          rw [if_neg (by decide), if_pos (by omega)]
          exact keyT (by unfold fB; rw [decide_eq_true h2, decide_eq_false h3, hp2]; rfl)
    · rw [if_neg h2]
      exact keyF (by unfold fB; rw [decide_eq_false h2]; rfl)
theorem build_outer {L : List S46} (hL : OkL L) (s : List SG) (m : List MP) (hm : m.length ≤ 1048576) (k' : Nat) (hk : m.length < k') : ∀ d kk x1, kk + d = L.length → x1.length = kk →
    impl_builderOf.l0 (k' + d * (L.length + 2) + 1) (L.map cvP) (L.length : Int) (kk : Nat) s m (L.map cvP) x1 = some (L.map cvP, x1 ++ (List.range' kk d).map (ownP m L)) := by
  have hl16 := hL.len
  have hlm : (L.map cvP).length = L.length := List.length_map ..
  intro d
  induction d with
  | zero =>
    intro kk x1 hp hr
    rw [impl_builderOf.l0]
    rw [if_neg (by omega)]
    simp
  | succ d ih =>
    intro kk x1 hp hr
    rw [impl_builderOf.l0]
    rw [if_pos (by omega), if_pos (by omega), if_pos (by omega), cv_rd L kk (by omega)]
    have e : k' + (d + 1) * (L.length + 2) = (k' + d * (L.length + 2) + 1) + L.length + 1 := by rw [Nat.succ_mul]; omega
    rw [e, hlm]
    have := build_inner hL s m hm kk (by omega) x1 hr (k' + d * (L.length + 2) + 1) (by omega) L.length 0 [] (by omega) (Nat.zero_le _)
    rw [show ((0 : Nat) : Int) = 0 from rfl] at this
    refine Eq.trans this ?_
    rw [ih (kk + 1) _ (by omega) (by simp [hr]), List.range'_succ, List.map_cons, List.append_assoc]
    rfl
theorem impl_builderOf.val {L : List S46} (hL : OkL L) (s : List SG) (m : List MP) (hm : m.length ≤ 1048576) (hp : impl_System_parts.f s m = some (L.map cvP)) : ∃ k, impl_builderOf.f k s m = some (L.map cvP, nextP m L) := by
  refine ⟨(m.length + 1) + L.length * (L.length + 2) + 1, ?_⟩
  unfold impl_builderOf.f
  rw [hp, Option.bind_some, List.length_map]
  have := build_outer hL s m hm (m.length + 1) (by omega) L.length 0 [] (by omega) rfl
  rw [show ((0 : Nat) : Int) = 0 from rfl] at this
  rw [this]
  rfl
-- the counts
def zL (L : List S46) (p : Nat) : Nat := (rd_T46 L (p : Int)).f0.size
def vL (L : List S46) (p : Nat) : Int := (rd_T46 L (p : Int)).f1
/-- The sum over the first pieces, as both make it. -/
def sumTo (L : List S46) (g : Nat → Nat → Bool) (G : Nat → Int → Nat → Int) (k : Nat) (n : Int) (last : Nat) : Nat → Int
  | 0 => if n = 0 then 1 else 0
  | p + 1 => if g last p = true ∧ zL L p ≤ k ∧ vL L p ≤ n then wrap64 (sumTo L g G k n last p + G (k - zL L p) (n - vL L p) p) else sumTo L g G k n last p
def cntD (L : List S46) (g : Nat → Nat → Bool) : Nat → Nat → Int → Nat → Int
  | 0, _, n, _ => if n = 0 then 1 else 0
  | d + 1, k, n, last => if k = 0 then (if n = 0 then 1 else 0) else sumTo L g (cntD L g d) k n last L.length
/-- In how many ways a number is written with so many letters at most, behind a piece. -/
def cnt (L : List S46) (g : Nat → Nat → Bool) (k : Nat) (n : Int) (last : Nat) : Int := cntD L g k k n last
theorem sumTo_congr {L : List S46} {g : Nat → Nat → Bool} {G G' : Nat → Int → Nat → Int} {k : Nat} {n : Int} {last : Nat} : ∀ P : Nat, (∀ p, p < P → zL L p ≤ k → ∀ x, G (k - zL L p) x p = G' (k - zL L p) x p) → sumTo L g G k n last P = sumTo L g G' k n last P
  | 0, _ => rfl
  | P + 1, h => by
    rw [sumTo, sumTo, sumTo_congr P (fun p hp => h p (by omega))]
    by_cases hc : g last P = true ∧ zL L P ≤ k ∧ vL L P ≤ n
    · rw [if_pos hc, if_pos hc, h P (by omega) hc.2.1]
    · rw [if_neg hc, if_neg hc]
theorem cntD_eq {L : List S46} (hL : OkL L) (g : Nat → Nat → Bool) : ∀ d d' k, k ≤ d → k ≤ d' → ∀ n last, cntD L g d k n last = cntD L g d' k n last := by
  intro d
  induction d with
  | zero =>
    intro d' k hk hk' n last
    obtain rfl : k = 0 := by omega
    cases d' with
    | zero => rfl
    | succ d' => rw [cntD, cntD, if_pos rfl]
  | succ d ih =>
    intro d' k hk hk' n last
    by_cases h0 : k = 0
    · subst h0
      cases d' with
      | zero => rw [cntD, cntD, if_pos rfl]
      | succ d' => rw [cntD, cntD, if_pos rfl, if_pos rfl]
    · cases d' with
      | zero => omega
      | succ d' =>
        rw [cntD, cntD, if_neg h0, if_neg h0]
        exact sumTo_congr _ (fun p hp hz x => ih d' _ (by have := (hL.siz p hp).1; unfold zL at *; omega) (by have := (hL.siz p hp).1; unfold zL at *; omega) x p)
theorem cnt_zero (L : List S46) (g : Nat → Nat → Bool) (n : Int) (last : Nat) : cnt L g 0 n last = if n = 0 then 1 else 0 := rfl
theorem cnt_pos {L : List S46} (hL : OkL L) (g : Nat → Nat → Bool) {k : Nat} (hk : k ≠ 0) (n : Int) (last : Nat) : cnt L g k n last = sumTo L g (cnt L g) k n last L.length := by
  unfold cnt
  obtain ⟨d, rfl⟩ : ∃ d, k = d + 1 := ⟨k - 1, by omega⟩
  rw [cntD, if_neg hk]
  exact sumTo_congr _ (fun p hp hz x => cntD_eq hL g _ _ _ (by have := (hL.siz p hp).1; unfold zL at *; omega) (Nat.le_refl _) x p)
theorem sumTo_range (L : List S46) (g : Nat → Nat → Bool) (G : Nat → Int → Nat → Int) (k : Nat) (n : Int) (last : Nat) : ∀ p, -9223372036854775808 ≤ sumTo L g G k n last p ∧ sumTo L g G k n last p ≤ 9223372036854775807
  | 0 => by rw [sumTo]; split <;> omega
  | p + 1 => by
    rw [sumTo]
    split
    · unfold wrap64; omega
    · exact sumTo_range L g G k n last p
theorem cnt_one {L : List S46} (hL : OkL L) (g : Nat → Nat → Bool) (k : Nat) (last : Nat) : cnt L g k 0 last = 1 := by
  by_cases h0 : k = 0
  · subst h0; rfl
  · rw [cnt_pos hL g h0]
    have : ∀ P, P ≤ L.length → sumTo L g (cnt L g) k 0 last P = 1 := by
      intro P
      induction P with
      | zero => intro _; rfl
      | succ P ih =>
        intro hP
        rw [sumTo, if_neg (fun h => by have := (hL.val P (by omega)).1; have := h.2.2; unfold vL at this; omega), ih (by omega)]
    exact this _ (Nat.le_refl _)
/-- What the program's search answers. -/
def Fv (L : List S46) (g : Nat → Nat → Bool) (n l : Int) (k : Nat) : Int := if n - vL L k < 0 ∨ l - (zL L k : Int) < 0 then 0 else cnt L g (l - (zL L k : Int)).toNat (n - vL L k) k
def sumF (L : List S46) (g : Nat → Nat → Bool) (n l : Int) (qs : List Nat) (a : Int) : Int := qs.foldl (fun a q => wrap64 (a + Fv L g n l q)) a
theorem wrap_in {a : Int} (h : -9223372036854775808 ≤ a ∧ a ≤ 9223372036854775807) : wrap64 (a + 0) = a := by unfold wrap64; omega
theorem sumF_part {L : List S46} (hL : OkL L) (g : Nat → Nat → Bool) (n l : Int) (hn : 1 ≤ n) (hl : 0 ≤ l) (last : Nat) : ∀ P, P ≤ L.length → sumF L g n l ((List.range' 0 P).filter (g last)) 0 = sumTo L g (cnt L g) l.toNat n last P := by
  intro P
  induction P with
  | zero =>
    intro _
    rw [sumTo, if_neg (by omega)]
    rfl
  | succ P ih =>
    intro hP
    rw [List.range'_concat, List.filter_append, sumF, List.foldl_append, sumTo]
    have h1 := ih (by omega)
    unfold sumF at h1
    rw [h1]
    have hr := sumTo_range L g (cnt L g) l.toNat n last P
    simp only [Nat.zero_add, Nat.one_mul, List.filter_cons, List.filter_nil]
    by_cases hg : g last P = true
    · rw [if_pos hg]
      simp only [List.foldl_cons, List.foldl_nil]
      unfold Fv
      by_cases hc : n - vL L P < 0 ∨ l - (zL L P : Int) < 0
      · rw [if_pos hc, wrap_in hr, if_neg (fun h => by rcases hc with h2 | h2 <;> omega)]
      · rw [if_neg hc, if_pos ⟨hg, by omega, by omega⟩]
        have e : (l - (zL L P : Int)).toNat = l.toNat - zL L P := by omega
        rw [e]
    · rw [if_neg hg, if_neg (fun h => hg h.1)]
      rfl
theorem sumF_all {L : List S46} (hL : OkL L) (g : Nat → Nat → Bool) (n l : Int) (hn : 1 ≤ n) (hl : 0 ≤ l) (last : Nat) : sumF L g n l ((List.range' 0 L.length).filter (g last)) 0 = cnt L g l.toNat n last := by
  rw [sumF_part hL g n l hn hl last _ (Nat.le_refl _)]
  by_cases h0 : l.toNat = 0
  · rw [h0, cnt_zero]
    have : ∀ P, P ≤ L.length → sumTo L g (cnt L g) 0 n last P = if n = 0 then 1 else 0 := by
      intro P
      induction P with
      | zero => intro _; rfl
      | succ P ih =>
        intro hP
        rw [sumTo, if_neg (fun h => by have := (hL.siz P (by omega)).1; have := h.2.1; unfold zL at this; omega), ih (by omega)]
    exact this _ (Nat.le_refl _)
  · rw [cnt_pos hL g h0]
end Go.Proofs.Ytnacfljfalkonaa.Q
