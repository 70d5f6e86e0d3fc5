/- spec.MatchWorn answers as the program does. -/
import Derived.Test.YteahgkijaehobaaDoorQhandMatchWorn
import Derived.Test.YteahgkijaehobaaDoorQspecMatchWorn
namespace Go.Proofs.YteahgkijaehobaaDoor.Q
open Go.RowKit Go.Proofs.YteahgkijaehobaaDoorW.PrintWords Go.Proofs.YteahgkijaehobaaDoorW.PrintLast Go.Proofs.YteahgkijaehobaaDoorW.PrintMore
open Go.Proofs.YteahgkijaehobaaDoor.Pure
set_option linter.unusedVariables false

/-- Place j of a worn word agrees with a word. -/
def placeB (a b : ByteArray) (j : Nat) : Bool := bt a j == 46 || bt a j == bt b j
/-- The places from j on agree. -/
def restB (a b : ByteArray) (j : Nat) : Bool := (List.range' j (a.size - j)).all (placeB a b)
theorem restB_step (a b : ByteArray) (j : Nat) (h : j < a.size) : restB a b j = (placeB a b j && restB a b (j + 1)) := by
  unfold restB
  rw [show a.size - j = (a.size - (j + 1)) + 1 by omega, List.range'_succ, List.all_cons]
theorem restB_end (a b : ByteArray) : restB a b a.size = true := by simp [restB]

theorem wordB_at {b : ByteArray} (h : wordB b = true) (j : Nat) (hj : j < b.size) : isL (bt b j) = true := by
  unfold wordB at h
  simp only [Bool.and_eq_true, List.all_eq_true, List.mem_range] at h
  exact h.1 j hj
theorem agrees_word (a b : ByteArray) (hb : wordB b = true) : agreesB a b = (decide (a.size = b.size) && restB a b 0) := by
  unfold agreesB agreeM
  by_cases h : a.size = b.size
  · rw [if_pos h, decide_eq_true h, Bool.true_and]
    have : fineB a b a.size = restB a b 0 := by
      unfold fineB restB
      rw [Nat.sub_zero, ← List.range_eq_range', Bool.eq_iff_iff, List.all_eq_true, List.all_eq_true]
      refine forall_congr' fun j => forall_congr' fun hj => ?_
      have hj' : j < b.size := by have := List.mem_range.1 hj; omega
      have hl := wordB_at hb j hj'
      have h46 : bt b j ≠ 46 := fun e => by rw [e] at hl; exact absurd hl (by decide)
      unfold mergeB placeB
      by_cases c1 : bt a j = 46
      · simp [c1]
      · rw [if_neg c1, if_neg h46]
        by_cases c2 : bt b j = bt a j
        · simp [c2]
        · have c3 : ¬ bt a j = bt b j := fun e => c2 e.symm
          simp [c1, c2, c3]
    rw [this]
    cases restB a b 0 <;> rfl
  · rw [if_neg h, decide_eq_false h]
    rfl

theorem inner (a : ByteArray) (l : List ByteArray) (x6 : List Int) (i : Nat) (hi : i < l.length) (ha : a.size ≤ 1000000) (hl : l.length ≤ 1000000) (h6 : x6.length ≤ 1000000) (M : Nat) (r : List Int × Int) (hs : a.size = (rdOf ByteArray.empty l (i : Nat)).size)
    : ∀ d j (same : Bool), j + d = a.size →
    spec_MatchWorn.l0 M a l (if (same && restB a (rdOf ByteArray.empty l (i : Nat)) j) = true then x6 ++ [(i : Int)] else x6) ((i + 1 : Nat) : Int) = some r →
    spec_MatchWorn.l1 (M + d + 1) a l x6 (i : Nat) same (j : Nat) = some r := by
  intro d
  induction d with
  | zero =>
    intro j same hj h
    obtain rfl : j = a.size := by omega
    rw [restB_end, Bool.and_true] at h
    rw [Nat.add_zero, spec_MatchWorn.l1]
    rw [if_neg (by omega), wrap_succ hi (by omega)]
    cases same
    · simpa using h
    · rw [if_pos rfl, if_pos (by omega)]
      simpa using h
  | succ d ih =>
    intro j same hj h
    rw [restB_step _ _ _ (by omega)] at h
    show spec_MatchWorn.l1 ((M + d + 1) + 1) a l x6 (i : Nat) same (j : Nat) = some r
    rw [spec_MatchWorn.l1]
    rw [if_pos (by omega), wrap_succ (i := j) (n := a.size) (by omega) (by omega), wrap_succ hi (by omega)]
    cases same
    · rw [if_neg (by simp)]
      refine at_rounds (fun k => (spec_MatchWorn.mono_l k).1 _ _ _ _) (by omega) (k := M) ?_
      simpa using h
    · rw [if_pos rfl, if_pos (by omega)]
      unfold placeB at h
      by_cases c : bt a j = 46
      · rw [if_pos c]
        refine ih (j + 1) true (by omega) ?_
        rw [c] at h
        simpa using h
      · rw [if_neg c, if_pos (by omega), if_pos (by omega), if_pos (by omega)]
        refine ih (j + 1) _ (by omega) ?_
        simpa [c] using h
theorem inner_no (a : ByteArray) (l : List ByteArray) (x6 : List Int) (i : Nat) (hi : i < l.length) (ha : a.size ≤ 1000000) (hl : l.length ≤ 1000000) (M : Nat) (r : List Int × Int)
    (h : spec_MatchWorn.l0 M a l x6 ((i + 1 : Nat) : Int) = some r) : spec_MatchWorn.l1 (M + 1) a l x6 (i : Nat) false 0 = some r := by
  simp only [spec_MatchWorn.l1, wrap_succ hi (show l.length ≤ 9223372036854775807 by omega), Bool.false_eq_true, if_false, h, ite_self]

theorem outer (a : ByteArray) (l : List ByteArray) (hw : ∀ x ∈ l, wordB x = true) (ha : a.size ≤ 1000000) (hl : l.length ≤ 1000000) : ∀ d i, i + d = l.length →
    spec_MatchWorn.l0 (d * (a.size + 2) + 1) a l (selL (fun i => agreesB a (rdOf ByteArray.empty l (i : Nat))) i) (i : Nat) = some (selL (fun i => agreesB a (rdOf ByteArray.empty l (i : Nat))) l.length, 0) := by
  intro d
  induction d with
  | zero =>
    intro i hi
    obtain rfl : i = l.length := by omega
    simp [spec_MatchWorn.l0]
  | succ d ih =>
    intro i hi
    have h := ih (i + 1) (by omega)
    have hb := hw (rdOf ByteArray.empty l (i : Nat)) (by rw [rdOf_get _ _ _ (by omega)]; exact List.getElem_mem _)
    have hag := agrees_word a _ hb
    have hsl := selL_len (fun i => agreesB a (rdOf ByteArray.empty l (i : Nat))) i
    have e : (d + 1) * (a.size + 2) + 1 = (d * (a.size + 2) + 1 + a.size + 1) + 1 := by rw [Nat.add_mul]; omega
    rw [e]
    simp only [spec_MatchWorn.l0]
    rw [if_pos (by omega), if_pos (by omega)]
    by_cases hs : a.size = (rdOf ByteArray.empty l (i : Nat)).size
    · rw [show (((rdOf ByteArray.empty l (i : Nat)).size : Int) == (a.size : Int)) = true by simp; omega]
      refine inner a l _ i (by omega) ha hl (by omega) _ _ hs a.size 0 true (by omega) ?_
      rw [Bool.true_and]
      rw [decide_eq_true hs, Bool.true_and] at hag
      rw [← hag]
      cases hq : agreesB a (rdOf ByteArray.empty l (i : Nat)) with
      | true => rw [if_pos rfl, ← selL_hit _ i hq]; exact h
      | false => rw [if_neg (by simp), ← selL_miss _ i hq]; exact h
    · rw [show (((rdOf ByteArray.empty l (i : Nat)).size : Int) == (a.size : Int)) = false by simp; omega]
      rw [decide_eq_false hs, Bool.false_and] at hag
      rw [selL_miss _ i hag] at h
      exact at_rounds (fun k => (spec_MatchWorn.mono_l k).2 _ _ _ _ _ _) (by omega) (inner_no a l _ i (by omega) ha hl _ _ h)

theorem spec_MatchWorn.val (a : ByteArray) (l : List ByteArray) (ha : a.size ≤ 9223372036854775807) (hl : l.length ≤ 9223372036854775807) (k : Nat) (hk : a.size + l.length + 1000 ≤ k) : spec_MatchWorn.f k a l = some (matchM a l) := by
  unfold spec_MatchWorn.f matchM
  simp only [Option.bind_some]
  rw [spec_l04List.val l hl k (by omega), at_rounds (spec_l04Worn.mono a) (by omega) (spec_l04Worn.val a ha)]
  simp only [Option.bind_some]
  cases hs : listB l with
  | false => simp
  | true =>
    cases hw : wornB a with
    | false => simp
    | true =>
      simp only [if_true]
      have h12 : l.length ≤ 12 ∧ ∀ x ∈ l, wordB x = true := by
        unfold listB at hs
        simp only [Bool.and_eq_true, decide_eq_true_iff, List.all_eq_true] at hs
        refine ⟨by omega, fun x hx => ?_⟩
        have := hs.1 x hx
        unfold shortB at this
        simp only [Bool.and_eq_true] at this
        exact this.1
      have h20 : a.size ≤ 20 := by
        unfold wornB at hw
        simp only [Bool.and_eq_true, decide_eq_true_iff] at hw
        omega
      have h := outer a l h12.2 (by omega) (by omega) l.length 0 (by omega)
      refine at_rounds (fun k => (spec_MatchWorn.mono_l k).1 _ _ _ _) ?_ h
      have : l.length * (a.size + 2) ≤ 12 * 22 := Nat.mul_le_mul h12.1 (by omega)
      omega
end Go.Proofs.YteahgkijaehobaaDoor.Q
