-- Joined by joinmods.py out of: QpureParts QpureRight QhandFrom QhandSpecReadings QpureReplace QpureReadings QpureReadEq
import Derived.Test.YtdhhnkhgmoblhaaDoorQSpec3
import Derived.Test.YtdhhnkhgmoblhaaDoorQhandValid
import Derived.Test.YtdhhnkhgmoblhaaDoorQhandSpecOk
import Derived.Test.YtdhhnkhgmoblhaaDoorQMinus
import Derived.Test.YtdhhnkhgmoblhaaDoorQhandTwo
import Derived.Outline
import Derived.Lib.Hide
import Derived.Laws.BytesArg
import Derived.Test.YtdhhnkhgmoblhaaDoorQisSNew
import Derived.Test.YtdhhnkhgmoblhaaDoorQ0
import Derived.Lib.Replace
import Derived.Test.YtdhhnkhgmoblhaaDoorQlibSort
import Derived.Test.YtdhhnkhgmoblhaaDoorQlib
section
/- The parts of a number, and whether a text is a number: program and reference agree; no condition. -/
namespace Go.Proofs.YtdhhnkhgmoblhaaDoor.Q
open Go.RowKit Go.Proofs.YtdhhnkhgmoblhaaDoorW.PrintWords Go.Proofs.YtdhhnkhgmoblhaaDoor.Pure
set_option linter.unusedVariables false

abbrev PT := S124
theorem rdPT_get (xs : List PT) (k : Nat) (h : k < xs.length) : rd_T124 xs (k : Int) = xs[k] := by
  unfold rd_T124
  simp [List.getD_eq_getElem?_getD, h]
def fitB (s : List SG) : Prop := (s.all (fun x => decide (-32768 ≤ x.f1) && decide (x.f1 ≤ 32767))) = true
def numB (s : List SG) (t : ByteArray) : Bool := (List.range t.size).all (fun i => decide (valB s (bt t (i : Nat)) ≠ 0)) && decide (t.size ≤ 16)
def codeB (s : List SG) (m : List MP) (t : ByteArray) : Int := if okB s m = true then (if numB s t = true then 0 else 5) else 1
def pairB (m : List MP) (a b : Int) : Bool := m.any (fun p => decide (p.f0 = a) && decide (p.f1 = b))

theorem impl_System_isNumber.val (s : List SG) (m : List MP) (t : ByteArray) (hs : s.length ≤ 1048576) (hf : fitB s) (ht : t.size ≤ 1048576) (k : Nat) (hk : 2097156 ≤ k) : impl_System_isNumber.f k s m t = some (numB s t) := by
  unfold impl_System_isNumber.f numB
  have := scan_allM (n := t.size) (M := 1048577) (l := fun k i => impl_System_isNumber.l0 k t (t.size : Int) i s m) (p := fun i => decide (valB s (bt t (i : Nat)) ≠ 0)) (b := decide (t.size ≤ 16)) (fun k i hi hM => ?_) (fun k hM => ?_) k (by omega)
  · exact this
  · simp only [impl_System_isNumber.l0]
    rw [if_pos (by omega), if_pos (by omega), if_pos (by omega), impl_System_value.val s m _ hs (fit16_of hf) k (by omega), Option.bind_some, wrap_succ hi (by omega)]
    by_cases h : valB s (bt t (i : Nat)) = 0 <;> simp [h]
  · simp only [impl_System_isNumber.l0]
    rw [if_neg (by omega)]
    congr 1
    rw [decide_eq_decide]
    omega
theorem pairB_cons (p : MP) (m : List MP) (a b : Int) : pairB (p :: m) a b = ((decide (p.f0 = a) && decide (p.f1 = b)) || pairB m a b) := by simp [pairB]
theorem spec_l03Pair.val (s : List SG) (m : List MP) (a b : Int) (hm : m.length ≤ 1048576) (k : Nat) (hk : m.length < k) : spec_l03Pair.f k s m a b = some (pairB m a b) := by
  unfold spec_l03Pair.f
  have key : ∀ d i k, i + d = m.length → d < k → spec_l03Pair.l0 k a b (i : Nat) s m = some (pairB (m.drop i) a b) := by
    intro d
    induction d with
    | zero =>
      intro i k hi hk
      obtain ⟨k, rfl⟩ : ∃ j, k = j + 1 := ⟨k - 1, by omega⟩
      simp only [spec_l03Pair.l0]
      rw [if_neg (by omega), List.drop_of_length_le (by omega)]
      rfl
    | succ d ih =>
      intro i k hi hk
      obtain ⟨k, rfl⟩ : ∃ j, k = j + 1 := ⟨k - 1, by omega⟩
      have hlt : i < m.length := by omega
      simp only [spec_l03Pair.l0]
      rw [if_pos (by omega), if_pos (by omega), rdA2_get _ _ hlt, List.drop_eq_getElem_cons hlt, pairB_cons, wrap_succ hlt (by omega), ih (i + 1) k (by omega) (by omega)]
      by_cases h1 : m[i].f0 = a
      · by_cases h2 : m[i].f1 = b <;> simp [h1, h2]
      · simp [h1]
  exact key m.length 0 k (by omega) hk
theorem slices_Index_uint8.val (m : List MP) (a b : Int) (hm : m.length ≤ 1048576) (k : Nat) (hk : m.length < k) : ∃ r, slices_Index_uint8.f k m a b = some r ∧ decide (r ≥ 0) = pairB m a b := by
  unfold slices_Index_uint8.f
  have key : ∀ d i k, i + d = m.length → d < k → ∃ r, slices_Index_uint8.l0 k m (m.length : Int) (i : Nat) a b = some r ∧ decide (r ≥ 0) = pairB (m.drop i) a b := by
    intro d
    induction d with
    | zero =>
      intro i k hi hk
      obtain ⟨k, rfl⟩ : ∃ j, k = j + 1 := ⟨k - 1, by omega⟩
      simp only [slices_Index_uint8.l0]
      rw [if_neg (by omega), List.drop_of_length_le (by omega)]
      exact ⟨-1, rfl, rfl⟩
    | succ d ih =>
      intro i k hi hk
      obtain ⟨k, rfl⟩ : ∃ j, k = j + 1 := ⟨k - 1, by omega⟩
      have hlt : i < m.length := by omega
      simp only [slices_Index_uint8.l0]
      rw [if_pos (by omega), if_pos (by omega), if_pos (by omega), rdA2_get _ _ hlt, List.drop_eq_getElem_cons hlt, pairB_cons, wrap_succ hlt (by omega)]
      by_cases h : (a == m[i].f0 && (b == m[i].f1)) = true
      · rw [if_pos h]
        simp only [Bool.and_eq_true, beq_iff_eq] at h
        exact ⟨i, rfl, by rw [decide_eq_true h.1.symm, decide_eq_true h.2.symm]; simp⟩
      · rw [if_neg h]
        obtain ⟨r, h1, h2⟩ := ih (i + 1) k (by omega) (by omega)
        refine ⟨r, h1, ?_⟩
        rw [h2]
        have : (decide (m[i].f0 = a) && decide (m[i].f1 = b)) = false := by
          rw [Bool.eq_false_iff]
          intro hc
          simp only [Bool.and_eq_true, decide_eq_true_iff] at hc
          exact h (by simp [hc.1, hc.2])
        rw [this, Bool.false_or]
  exact key m.length 0 k (by omega) hk
theorem impl_System_isMinus.val (s : List SG) (m : List MP) (a b : Int) (hm : m.length ≤ 1048576) (k : Nat) (hk : m.length < k) : impl_System_isMinus.f k s m a b = some (pairB m a b) := by
  unfold impl_System_isMinus.f slices_Contains_uint8.f
  obtain ⟨r, h1, h2⟩ := slices_Index_uint8.val m a b hm k hk
  rw [h1, Option.bind_some, Option.bind_some, h2]

theorem wrap_n1 (i : Nat) (h : i < 1048576) : wrap64 ((i : Int) + 1) = ((i + 1 : Nat) : Int) := by rw [wrap_id (by omega) (by omega)]; omega
theorem wrap_n2 (i : Nat) (h : i < 1048576) : wrap64 ((i : Int) + 2) = ((i + 2 : Nat) : Int) := by rw [wrap_id (by omega) (by omega)]; omega
theorem wrap_n3 (i : Nat) (h : i < 1048576) : wrap64 (((i + 1 : Nat) : Int) + 1) = ((i + 2 : Nat) : Int) := by rw [wrap_id (by omega) (by omega)]; omega
/-- The parts of a text from a place on. -/
def partsFrom (s : List SG) (m : List MP) (t : ByteArray) : Nat → Nat → List PT
  | 0, _ => []
  | d + 1, i => if i < t.size then (if i + 1 < t.size ∧ pairB m (bt t (i : Nat)) (bt t ((i + 1 : Nat) : Int)) = true then ⟨t.extract i (i + 2), valB s (bt t ((i + 1 : Nat) : Int)) - valB s (bt t (i : Nat))⟩ :: partsFrom s m t d (i + 2)
    else ⟨t.extract i (i + 1), valB s (bt t (i : Nat))⟩ :: partsFrom s m t d (i + 1)) else []
theorem partsFrom_len (s : List SG) (m : List MP) (t : ByteArray) : ∀ d i, (partsFrom s m t d i).length ≤ d := by
  intro d
  induction d with
  | zero => intro i; simp [partsFrom]
  | succ d ih =>
    intro i
    have h1 := ih (i + 1)
    have h2 := ih (i + 2)
    simp only [partsFrom]
    split
    · split <;> simp <;> omega
    · simp
def partsT (s : List SG) (m : List MP) (t : ByteArray) : List PT := partsFrom s m t t.size 0
theorem impl_System_split.val (M : Nat) (s : List SG) (m : List MP) (t : ByteArray) (hs : s.length ≤ 1048576) (hm : m.length ≤ 1048576) (hsM : s.length < M) (hmM : m.length < M) (hf : fitB s) (ht : t.size ≤ 16) (k : Nat) (hk : M + 64 ≤ k) : impl_System_split.f k s m t = some (partsT s m t) := by
  unfold impl_System_split.f partsT
  have key : ∀ d i k (acc : List PT), t.size ≤ i + d → acc.length + d ≤ 32 → d ≤ 16 → M + 2 * d + 1 ≤ k → impl_System_split.l0 k t acc (i : Nat) s m = some (acc ++ partsFrom s m t d i) := by
    intro d
    induction d with
    | zero =>
      intro i k acc hi ha hd hk
      obtain ⟨k, rfl⟩ : ∃ j, k = j + 1 := ⟨k - 1, by omega⟩
      simp only [impl_System_split.l0, partsFrom]
      rw [if_neg (by omega), List.append_nil]
    | succ d ih =>
      intro i k acc hi ha hd hk
      obtain ⟨k, rfl⟩ : ∃ j, k = j + 1 := ⟨k - 1, by omega⟩
      obtain ⟨k, rfl⟩ : ∃ j, k = j + 1 := ⟨k - 1, by omega⟩
      simp only [partsFrom]
      by_cases hlt : i < t.size
      · have b1 := valB_le (fit16_of hf) (bt t (i : Nat))
        have b2 := valB_le (fit16_of hf) (bt t ((i + 1 : Nat) : Int))
        have V1 := impl_System_value.val s m (bt t (i : Nat)) hs (fit16_of hf) k (by omega)
        have V2 := impl_System_value.val s m (bt t ((i + 1 : Nat) : Int)) hs (fit16_of hf) k (by omega)
        have VP := impl_System_isMinus.val s m (bt t (i : Nat)) (bt t ((i + 1 : Nat) : Int)) hm (k + 1) (by omega)
        have J1 := ih (i + 1) k (acc ++ [⟨t.extract i (i + 1), valB s (bt t (i : Nat))⟩]) (by omega) (by simp; omega) (by omega) (by omega)
        have J2 := fun (h : i + 1 < t.size) => ih (i + 2) k (acc ++ [⟨t.extract i (i + 2), valB s (bt t ((i + 1 : Nat) : Int)) - valB s (bt t (i : Nat))⟩]) (by omega) (by simp; omega) (by omega) (by omega)
        have c0 : (0 : Int) ≤ (i : Int) := by omega
        have c1 : (i : Int) ≤ ((i + 1 : Nat) : Int) := by omega
        have c2 : ((i + 1 : Nat) : Int) ≤ (t.size : Int) := by omega
        have c3 : (i : Int) < (t.size : Int) := by omega
        have c4 : acc.length < 5864062014805 := by omega
        have c5 : (0 : Int) ≤ ((i + 1 : Nat) : Int) := by omega
        have c6 : (i : Int) ≤ ((i + 2 : Nat) : Int) := by omega
        have c7 : ¬ i + 1 < t.size → ¬ ((i + 1 : Nat) : Int) < (t.size : Int) := by omega
        have c8 : i + 1 < t.size → ((i + 1 : Nat) : Int) < (t.size : Int) ∧ ((i + 2 : Nat) : Int) ≤ (t.size : Int) := by omega
        have hi16 : i < 1048576 := by omega
        have W := wrap_id (n := valB s (bt t ((i + 1 : Nat) : Int)) - valB s (bt t (i : Nat))) (by omega) (by omega)
        have w1 := wrap_n1 i hi16
        have w2 := wrap_n2 i hi16
        have w3 := wrap_n3 i hi16
        have J0 : impl_System_split.j1 (k + 1) t acc (i : Nat) false s m = some (acc ++ ⟨t.extract i (i + 1), valB s (bt t (i : Nat))⟩ :: partsFrom s m t d (i + 1)) := by
          simp only [impl_System_split.j1]
          rw [if_neg Bool.false_ne_true, w1, if_pos c0, if_pos c1, if_pos c2, if_pos c3, V1, Option.bind_some, if_pos c4, Int.toNat_natCast, Int.toNat_natCast, J1, List.append_assoc]
          rfl
        rw [if_pos hlt]
        simp only [impl_System_split.l0]
        rw [if_pos c3, w1]
        by_cases h1 : i + 1 < t.size
        · obtain ⟨c7, c8⟩ := c8 h1
          rw [if_pos c7, if_pos c0, if_pos c5, VP, Option.bind_some]
          cases hp : pairB m (bt t (i : Nat)) (bt t ((i + 1 : Nat) : Int)) with
          | false => rw [J0, if_neg (fun h => Bool.false_ne_true h.2)]
          | true =>
            rw [if_pos ⟨h1, rfl⟩]
            simp only [impl_System_split.j1]
            rw [if_pos trivial, w1, w2, w3, if_pos c0, if_pos c6, if_pos c8, if_pos c5, if_pos c7, V2, Option.bind_some, if_pos c3, V1, Option.bind_some, if_pos c4, Int.toNat_natCast, Int.toNat_natCast, W, J2 h1, List.append_assoc]
            rfl
        · rw [if_neg (c7 h1), if_neg (show ¬ (i + 1 < t.size ∧ pairB m (bt t (i : Nat)) (bt t ((i + 1 : Nat) : Int)) = true) from fun h => h1 h.1), J0]
      · rw [if_neg hlt]
        simp only [impl_System_split.l0]
        rw [if_neg (by omega), List.append_nil]
  have := key t.size 0 k [] (by omega) (by simp; omega) (by omega) (by omega)
  simpa using this
theorem spec_l03Parts.val (M : Nat) (s : List SG) (m : List MP) (t : ByteArray) (hs : s.length ≤ 1048576) (hm : m.length ≤ 1048576) (hsM : s.length < M) (hmM : m.length < M) (hf : fitB s) (ht : t.size ≤ 16) (k : Nat) (hk : M + 64 ≤ k) : spec_l03Parts.f k s m t = some ((partsT s m t).map (·.f1)) := by
  unfold spec_l03Parts.f partsT
  have key : ∀ d i k (acc : List Int), t.size ≤ i + d → acc.length + d ≤ 32 → d ≤ 16 → M + 2 * d + 1 ≤ k → spec_l03Parts.l0 k t acc (i : Nat) s m = some (acc ++ (partsFrom s m t d i).map (·.f1)) := by
    intro d
    induction d with
    | zero =>
      intro i k acc hi ha hd hk
      obtain ⟨k, rfl⟩ : ∃ j, k = j + 1 := ⟨k - 1, by omega⟩
      simp only [spec_l03Parts.l0, partsFrom]
      rw [if_neg (by omega), List.map_nil, List.append_nil]
    | succ d ih =>
      intro i k acc hi ha hd hk
      obtain ⟨k, rfl⟩ : ∃ j, k = j + 1 := ⟨k - 1, by omega⟩
      simp only [partsFrom]
      by_cases hlt : i < t.size
      · have b1 := valB_le (fit16_of hf) (bt t (i : Nat))
        have b2 := valB_le (fit16_of hf) (bt t ((i + 1 : Nat) : Int))
        have V1 := spec_l03Value.val s m (bt t (i : Nat)) hs (fit16_of hf) k (by omega)
        have V2 := spec_l03Value.val s m (bt t ((i + 1 : Nat) : Int)) hs (fit16_of hf) k (by omega)
        have VP := spec_l03Pair.val s m (bt t (i : Nat)) (bt t ((i + 1 : Nat) : Int)) hm k (by omega)
        have c0 : (0 : Int) ≤ (i : Int) := by omega
        have c3 : (i : Int) < (t.size : Int) := by omega
        have c4 : acc.length < 17592186044416 := by omega
        have c5 : (0 : Int) ≤ ((i + 1 : Nat) : Int) := by omega
        have J0 := ih (i + 1) k (acc ++ [valB s (bt t (i : Nat))]) (by omega) (by simp; omega) (by omega) (by omega)
        have J1 := ih (i + 2) k (acc ++ [valB s (bt t ((i + 1 : Nat) : Int)) - valB s (bt t (i : Nat))]) (by omega) (by simp; omega) (by omega) (by omega)
        have c7 : ¬ i + 1 < t.size → ¬ ((i + 1 : Nat) : Int) < (t.size : Int) := by omega
        have c8 : i + 1 < t.size → ((i + 1 : Nat) : Int) < (t.size : Int) ∧ ((i + 2 : Nat) : Int) ≤ (t.size : Int) := by omega
        have hi16 : i < 1048576 := by omega
        have W := wrap_id (n := valB s (bt t ((i + 1 : Nat) : Int)) - valB s (bt t (i : Nat))) (by omega) (by omega)
        have w1 := wrap_n1 i hi16
        have w3 := wrap_n3 i hi16
        rw [if_pos hlt]
        simp only [spec_l03Parts.l0]
        rw [if_pos c3, if_pos c0, V1, Option.bind_some, w1, w3]
        by_cases h1 : i + 1 < t.size
        · obtain ⟨c7, c8⟩ := c8 h1
          rw [if_pos c7, if_pos c5, VP, Option.bind_some]
          cases hp : pairB m (bt t (i : Nat)) (bt t ((i + 1 : Nat) : Int)) with
          | false =>
            rw [if_neg Bool.false_ne_true, if_pos c4, J0, if_neg (fun h => Bool.false_ne_true h.2)]
            simp
          | true =>
            rw [if_pos rfl, V2, Option.bind_some, if_pos c4, if_pos ⟨h1, rfl⟩, W, J1]
            simp
        · rw [if_neg (c7 h1), if_neg (show ¬ (i + 1 < t.size ∧ pairB m (bt t (i : Nat)) (bt t ((i + 1 : Nat) : Int)) = true) from fun h => h1 h.1), if_pos c4, J0]
          simp
      · rw [if_neg hlt]
        simp only [spec_l03Parts.l0]
        rw [if_neg (by omega), List.map_nil, List.append_nil]
  have := key t.size 0 k [] (by omega) (by simp; omega) (by omega) (by omega)
  simpa using this
theorem partsT_len (s : List SG) (m : List MP) (t : ByteArray) : (partsT s m t).length ≤ t.size := partsFrom_len s m t t.size 0
theorem numB_size {s : List SG} {t : ByteArray} (h : numB s t = true) : t.size ≤ 16 := by
  unfold numB at h
  simp only [Bool.and_eq_true, decide_eq_true_iff] at h
  exact h.2
theorem codeB_ok {s : List SG} {m : List MP} {t : ByteArray} (h : codeB s m t = 0) : t.size ≤ 16 := by
  unfold codeB at h
  split at h
  · split at h
    · rename_i h1 h2
      exact numB_size h2
    · cases h
  · cases h
end Go.Proofs.YtdhhnkhgmoblhaaDoor.Q
end
section
/- Whether a number is right: program and reference agree; no condition. -/
namespace Go.Proofs.YtdhhnkhgmoblhaaDoor.Q
open Go.RowKit Go.Proofs.YtdhhnkhgmoblhaaDoorW.PrintWords Go.Proofs.YtdhhnkhgmoblhaaDoor.Pure
set_option linter.unusedVariables false

/-- Whether parts go down. -/
def fallB (xs : List Int) : Bool := (List.range (xs.length - 1)).all (fun i => !decide (rd xs ((i + 1 : Nat) : Int) > rd xs (i : Nat)))
theorem spec_right.val (xs : List Int) (h : xs.length ≤ 1048576) (k : Nat) (hk : xs.length + 1 < k) : spec_l03Right.l0 k xs 1 = some (fallB xs) := by
  by_cases h0 : xs.length = 0
  · obtain ⟨k, rfl⟩ : ∃ j, k = j + 1 := ⟨k - 1, by omega⟩
    simp only [spec_l03Right.l0]
    rw [if_neg (by omega)]
    unfold fallB
    rw [h0]
    rfl
  have := scan_all (n := xs.length - 1) (l := fun k i => spec_l03Right.l0 k xs (i + 1)) (p := fun i => !decide (rd xs ((i + 1 : Nat) : Int) > rd xs (i : Nat))) (b := true) (fun k i hi => ?_) (fun k => ?_) k (by omega)
  · unfold fallB
    rw [Bool.and_true] at this
    exact this
  · have e1 : wrap64 (((i : Nat) : Int) + 1 - 1) = (i : Int) := by rw [wrap_id (by omega) (by omega)]; omega
    have e2 : wrap64 (((i : Nat) : Int) + 1 + 1) = ((i + 1 : Nat) : Int) + 1 := by rw [wrap_id (by omega) (by omega)]; omega
    have e3 : ((i : Nat) : Int) + 1 = ((i + 1 : Nat) : Int) := by omega
    simp only [spec_l03Right.l0, e1, e2]
    rw [e3, if_pos (by omega), if_pos (by omega), if_pos (by omega), if_pos (by omega)]
    by_cases hh : rd xs ((i + 1 : Nat) : Int) > rd xs (i : Nat)
    · rw [if_pos hh, decide_eq_true hh]; rfl
    · rw [if_neg hh, decide_eq_false hh]; rfl
  · simp only [spec_l03Right.l0]
    rw [if_neg (by omega)]
theorem impl_right.val (l : List PT) (h : l.length ≤ 1048576) (k : Nat) (hk : l.length + 1 < k) : impl_System_isRight.l0 k l 1 = some (fallB (l.map (·.f1))) := by
  by_cases h0 : l.length = 0
  · obtain ⟨k, rfl⟩ : ∃ j, k = j + 1 := ⟨k - 1, by omega⟩
    simp only [impl_System_isRight.l0]
    rw [if_neg (by omega)]
    unfold fallB
    rw [List.length_map, h0]
    rfl
  have := scan_all (n := l.length - 1) (l := fun k i => impl_System_isRight.l0 k l (i + 1)) (p := fun i => !decide (rd (l.map (·.f1)) ((i + 1 : Nat) : Int) > rd (l.map (·.f1)) (i : Nat))) (b := true) (fun k i hi => ?_) (fun k => ?_) k (by omega)
  · unfold fallB
    rw [List.length_map]
    rw [Bool.and_true] at this
    exact this
  · have g1 : (rd_T124 l (i : Nat)).f1 = rd (l.map (·.f1)) (i : Nat) := by rw [rdPT_get l i (by omega), rd_get _ i (by rw [List.length_map]; omega), List.getElem_map]
    have g2 : (rd_T124 l ((i + 1 : Nat) : Int)).f1 = rd (l.map (·.f1)) ((i + 1 : Nat) : Int) := by rw [rdPT_get l (i + 1) (by omega), rd_get _ (i + 1) (by rw [List.length_map]; omega), List.getElem_map]
    have e1 : wrap64 (((i : Nat) : Int) + 1 - 1) = (i : Int) := by rw [wrap_id (by omega) (by omega)]; omega
    have e2 : wrap64 (((i : Nat) : Int) + 1 + 1) = ((i + 1 : Nat) : Int) + 1 := by rw [wrap_id (by omega) (by omega)]; omega
    have e3 : ((i : Nat) : Int) + 1 = ((i + 1 : Nat) : Int) := by omega
    simp only [impl_System_isRight.l0, e1, e2]
    rw [e3, if_pos (by omega), if_pos (by omega), if_pos (by omega), if_pos (by omega), g1, g2]
    by_cases hh : rd (l.map (·.f1)) ((i + 1 : Nat) : Int) > rd (l.map (·.f1)) (i : Nat)
    · rw [if_pos hh, decide_eq_true hh]; rfl
    · rw [if_neg hh, decide_eq_false hh]; rfl
  · simp only [impl_System_isRight.l0]
    rw [if_neg (by omega)]

def rightB (s : List SG) (m : List MP) (t : ByteArray) : Bool := fallB ((partsT s m t).map (·.f1))
theorem spec_l03Right.val (s : List SG) (m : List MP) (t : ByteArray) (hs : s.length ≤ 1048576) (hm : m.length ≤ 1048576) (hf : fitB s) (h16 : t.size ≤ 16) (k : Nat) (hk : 2097160 ≤ k) : spec_l03Right.f k s m t = some (rightB s m t) := by
  have hl := partsT_len s m t
  unfold spec_l03Right.f rightB
  rw [spec_l03Parts.val 1048577 s m t hs hm (by omega) (by omega) hf h16 _ (by omega), Option.bind_some, spec_right.val _ (by rw [List.length_map]; omega) _ (by rw [List.length_map]; omega)]
theorem impl_System_isRight.val (s : List SG) (m : List MP) (t : ByteArray) (hs : s.length ≤ 1048576) (hm : m.length ≤ 1048576) (hf : fitB s) (h16 : t.size ≤ 16) (k : Nat) (hk : 2097160 ≤ k) : impl_System_isRight.f k s m t = some (rightB s m t) := by
  have hl := partsT_len s m t
  unfold impl_System_isRight.f rightB
  rw [impl_System_split.val 1048577 s m t hs hm (by omega) (by omega) hf h16 _ (by omega), Option.bind_some, impl_right.val _ (by omega) _ (by omega)]
end Go.Proofs.YtdhhnkhgmoblhaaDoor.Q
end
section
/- (*spec.l03Read).from by hand: it goes on with a text in every way, and lists the right ones, until there are too many. -/
namespace Go.Proofs.YtdhhnkhgmoblhaaDoor.Q
open Go.RowKit Go.Proofs.YtdhhnkhgmoblhaaDoorW.PrintWords Go.Proofs.YtdhhnkhgmoblhaaDoorW.PrintLast Go.Proofs.YtdhhnkhgmoblhaaDoorW.PrintMore
open Go.Proofs.YtdhhnkhgmoblhaaDoor.Pure
set_option linter.unusedVariables false
set_option linter.unusedSimpArgs false

def fromF (right : ByteArray → Bool) (ls : List Int) (worn : ByteArray) : Nat → ByteArray → List ByteArray → List ByteArray
  | 0, t, out => if 500 < out.length then out else if right t = true then out ++ [t] else out
  | n + 1, t, out => if 500 < out.length then out else if bt worn (t.size : Int) = 63 then ls.foldl (fun o c => fromF right ls worn n (t ++ strOfNums [c]) o) out else fromF right ls worn n (t ++ worn.extract t.size (t.size + 1)) out
theorem fromF_len (right : ByteArray → Bool) (ls : List Int) (worn : ByteArray) : ∀ n t out, out.length ≤ 501 → (fromF right ls worn n t out).length ≤ 501 := by
  intro n
  induction n with
  | zero =>
    intro t out h
    unfold fromF
    split
    · exact h
    · split
      · rw [List.length_append]; simp only [List.length_singleton]; omega
      · exact h
  | succ n ih =>
    intro t out h
    unfold fromF
    split
    · exact h
    · split
      · have key : ∀ (l : List Int) (o : List ByteArray), o.length ≤ 501 → (l.foldl (fun o c => fromF right ls worn n (t ++ strOfNums [c]) o) o).length ≤ 501 := by
          intro l
          induction l with
          | nil => intro o ho; exact ho
          | cons c l ihl => intro o ho; exact ihl _ (ih _ _ ho)
        exact key ls out h
      · exact ih _ _ h
theorem fromF_big (right : ByteArray → Bool) (ls : List Int) (worn : ByteArray) (n : Nat) (t : ByteArray) (out : List ByteArray) (h : 500 < out.length) : fromF right ls worn n t out = out := by
  cases n <;> (unfold fromF; rw [if_pos h])

/-- The frame of the search: what lay before its variable lies there still, but for the system's own variable, which reads as before. -/
structure Fr (w0 Wb W : World) (gs : Nat) (s : List SG) (m : List MP) : Prop where
  keep : KeepBut Wb W gs none
  isS : IsS30 w0 W gs s m
  low : Below w0.heap.size w0 W
  lt : gs < Wb.heap.size
theorem Fr.below {w0 Wb W W1 : World} {gs : Nat} {s : List SG} {m : List MP} (h : Fr w0 Wb W gs s m) (hb : Below Wb.heap.size W W1) : Fr w0 Wb W1 gs s m := by
  obtain ⟨hk, hi, hl, hlt⟩ := h
  have hge := hi.ge
  refine ⟨⟨Nat.le_trans hk.1 hb.size, fun i hi1 hi2 hi3 => (hb.block i hi1).trans (hk.2 i hi1 hi2 hi3)⟩, ?_, ?_, hlt⟩
  · obtain ⟨A0, c0, A1, c1, h1, h2, h3, h4⟩ := hi
    exact ⟨A0, c0, A1, c1, (hb.block gs hlt).trans h1, h2, h3, h4⟩
  · exact hl.trans ⟨hb.os, hb.tape, hb.output, hb.size, fun i hi => hb.block i (by omega)⟩
theorem Fr.call {w0 Wb W W1 : World} {gs : Nat} {s : List SG} {m : List MP} (h : Fr w0 Wb W gs s m) (hi : IsS30 w0 W1 gs s m) (hl : Below w0.heap.size w0 W1) (hk : KeepBut W W1 gs none) : Fr w0 Wb W1 gs s m :=
  ⟨h.keep.trans hk (.inl rfl), hi, hl, h.lt⟩

def FrInv (w0 Wb : World) (gs g : Nat) (s : List SG) (m : List MP) (AL : Option Addr) (cl : Nat) (ls : List Int) (worn : ByteArray) (n : Nat) (t : ByteArray) (out : List ByteArray) (i : Value) (wr : World) : Prop :=
  ∃ (j : Nat) (v : Value) (o : List ByteArray), j ≤ ls.length ∧ i = .int .i64 j ∧ RowKit.Hid (Fr w0 Wb wr gs s m) ∧ RowKit.Hid (wr.heap[g]? = some (.cells #[.pointer (some ⟨gs, 0, none⟩), .slice AL ls.length cl, .string worn, v] 100 (0, 0))) ∧ RowKit.Hid (Kd.R Kd.string 9 wr g (fun k => g < k) v o) ∧ RowKit.Hid (o = (ls.take j).foldl (fun o c => fromF (rightB s m) ls worn n (t ++ strOfNums [c]) o) out) ∧ RowKit.Hid (o.length ≤ 501)
set_option maxRecDepth 20000 in
set_option maxHeartbeats 4000000 in
theorem spec_l03Read_from.calls (w0 Wb : World) (gs g : Nat) (s : List SG) (m : List MP) (AL : Option Addr) (cl : Nat) (ls : List Int) (worn : ByteArray) (hg : g = Wb.heap.size)
    (hLs : ∀ W, KeepBut Wb W gs none → Kd.C (Kd.int .u8) W AL ls.length ls) (hll : ls.length ≤ 26) (hw16 : worn.size ≤ 16) (hright : ∀ t : ByteArray, t.size ≤ 16 → spec_l03Right.f 2097160 s m t = some (rightB s m t)) :
    ∀ (n : Nat) (t : ByteArray) (v : Value) (out : List ByteArray) (w : World), worn.size = t.size + n → out.length ≤ 501 → Fr w0 Wb w gs s m → w.heap[g]? = some (.cells #[.pointer (some ⟨gs, 0, none⟩), .slice AL ls.length cl, .string worn, v] 100 (0, 0)) → Kd.R Kd.string 9 w g (fun k => g < k) v out →
    Calls Tryd.prog 68 #[.pointer (some ⟨g, 0, none⟩), .string t] w fun e w' => e = .returned (.tuple #[]) ∧ ∃ v', Fr w0 Wb w' gs s m ∧ w'.heap[g]? = some (.cells #[.pointer (some ⟨gs, 0, none⟩), .slice AL ls.length cl, .string worn, v'] 100 (0, 0)) ∧ Kd.R Kd.string 9 w' g (fun k => g < k) v' (fromF (rightB s m) ls worn n t out) := by
  have HRT := Lib.hid hright
  have HLS := Lib.hid hLs
  have HG := Lib.hid hg
  clear hright hLs hg
  intro n
  induction n with
  | zero =>
    intro t v out w hn hl hF hbk hR
    obtain ⟨A, c, rfl⟩ := Kd.R_slice hR
    have F := Lib.hid hF
    have BK := Lib.hid hbk
    have R := Lib.hid hR
    have LG := Lib.hid (blk_lt hbk)
    have NG := Lib.hid (show g ≠ gs from by have := hF.lt; rw [HG.out]; omega)
    have hd0 := (blk_cell hbk 0).trans rfl
    have hd2 := (blk_cell hbk 2).trans rfl
    have hd3 := (blk_cell hbk 3).trans rfl
    clear hF hbk hR
    by_cases h5 : 500 < out.length
    · have c5 : decide ((500 : Int) < (out.length : Int)) = true := decide_eq_true (by omega)
      go_enter Tryd.func68, Tryd.ntmps68
      go_wp2
      ((try simp only [Exit.inBlock, Exit.then]); refine bodyPost_ret (results_none rfl _ _ _) rfl ?_)
      exact ⟨rfl, _, F.out, BK.out, by rw [fromF_big _ _ _ _ _ _ h5]; exact R.out⟩
    · have c5 : decide ((500 : Int) < (out.length : Int)) = false := decide_eq_false (by omega)
      have c6 : decide ((t.size : Int) = (worn.size : Int)) = true := decide_eq_true (by omega)
      have c7 : ((t.size : Int) == (worn.size : Int)) = true := beq_iff_eq.2 (by omega)
      have HC := Lib.hid (HRT.out t (by omega))
      cases hr : rightB s m t with
      | false =>
        rw [hr] at HC
        have hz := hr
        clear hr
        go_enter Tryd.func68, Tryd.ntmps68
        go_wp2_with (first | (go_at_call 88; with_reducible refine (spec_l03Right.calls 2097160 gs s m t false w0 _ F.out.isS F.out.low HC.out).mono ?_; rintro e w1 ⟨rfl, hi, hb, hk⟩; have F1 := Lib.hid (F.out.call hi hb hk); have BK1 := Lib.hid (hk.blk BK.out NG.out (by simp)); have R1 := Lib.hid (Kd.R_keep R.out hk (fun k hk => by have := F.out.lt; have := HG.out; omega)); clear hi hb hk))
        ((try simp only [Exit.inBlock, Exit.then]); refine bodyPost_ret (results_none rfl _ _ _) rfl ?_)
        refine ⟨rfl, _, F1.out, BK1.out, ?_⟩
        unfold fromF
        rw [if_neg h5, if_neg (by rw [hz]; simp)]
        exact R1.out
      | true =>
        rw [hr] at HC
        have hz := hr
        clear hr
        go_enter Tryd.func68, Tryd.ntmps68
        go_wp2_with (first | (go_at_call 88; with_reducible refine (spec_l03Right.calls 2097160 gs s m t true w0 _ F.out.isS F.out.low HC.out).mono ?_; rintro e w1 ⟨rfl, hi, hb, hk⟩; have F1 := Lib.hid (F.out.call hi hb hk); have BK1 := Lib.hid (hk.blk BK.out NG.out (by simp)); have R1 := Lib.hid (Kd.R_keep R.out hk (fun k hk => by have := F.out.lt; have := HG.out; omega)); have he3 := (blk_cell BK1.out 3).trans rfl; clear hi hb hk) | ((with_reducible refine gate_builtin (b := .append) (xs := #[.tmp 31, .tmp 33]) rfl ?_); at_builtin; refine Kd.R_append Kd.string (w0 := w1) g rfl (.tmp 31) (.tmp 33) 37 9 (.string ⟨#[]⟩) 16 rfl Tryd.underlying37 info9 rfl (by decide) (by omega) (.slice A out.length c) out t [.string t] (fun k => g < k) (fun _ => False) ?hS ?hX ?aP (fun _ hk => hk.elim) ?aF ?aO ?aB ?aS ?aL ?_; (case hS => rfl); (case hX => first | rfl | (go_simp; done) | (simp [World.alloc]; done) | (go_simp; rfl)); (case aP => exact rfl); (case aF => exact (fun k hk => Nat.lt_of_lt_of_le (blk_lt BK1.out) hk)); (case aO => exact R1.out); (case aB => exact Below.refl _ _); (case aS => exact Nat.le_of_lt (blk_lt BK1.out)); (case aL => omega); intro v2 w2 ho hb hgr hat; have F2 := Lib.hid (F1.out.below (by rw [← HG.out]; exact hb)); have BK2 := Lib.hid (blk_grown BK1.out hgr (Kd.R_ne R1.out BK1.out (by decide))); have R2 := Lib.hid ho; have hz3 := (blk_cell BK2.out 3).trans rfl; have hfz := blk_frozen BK2.out 3; obtain ⟨A2, c2, e2⟩ := Kd.R_slice ho; obtain ⟨n2, hn2⟩ : ∃ n2, n2 = (out ++ [t]).length := ⟨_, rfl⟩; rw [← hn2] at e2; subst e2; clear hn2; clear ho hb hgr hat he3))
        ((try simp only [Exit.inBlock, Exit.then]); refine bodyPost_ret (results_none rfl _ _ _) rfl ?_)
        refine ⟨rfl, .slice A2 n2 c2, F2.out.below ((Below.refl _ _).setCell (by rw [HG.out]; exact Nat.le_refl _) _), blk_put (cs := #[.pointer (some ⟨gs, 0, none⟩), .slice AL ls.length cl, .string worn, .slice A out.length c]) BK2.out 3 (.slice A2 n2 c2) rfl, ?_⟩
        unfold fromF
        rw [if_neg h5, if_pos hz]
        exact Kd.R_far R2.out (p := ⟨g, 3, none⟩) (fun k hk => Nat.ne_of_gt hk) (.slice A2 n2 c2)
  | succ n ih =>
    intro t v out w hn hl hF hbk hR
    obtain ⟨A, c, rfl⟩ := Kd.R_slice hR
    have F := Lib.hid hF
    have BK := Lib.hid hbk
    have R := Lib.hid hR
    have IH := Lib.hid ih
    clear ih
    have hd0 := (blk_cell hbk 0).trans rfl
    have hd2 := (blk_cell hbk 2).trans rfl
    have hd3 := (blk_cell hbk 3).trans rfl
    have HN := Lib.hid hn
    have hlt : t.size < worn.size := by omega
    clear hF hbk hR hn
    by_cases h5 : 500 < out.length
    · have c5 : decide ((500 : Int) < (out.length : Int)) = true := decide_eq_true (by omega)
      go_enter Tryd.func68, Tryd.ntmps68
      go_wp2
      ((try simp only [Exit.inBlock, Exit.then]); refine bodyPost_ret (results_none rfl _ _ _) rfl ?_)
      exact ⟨rfl, _, F.out, BK.out, by rw [fromF_big _ _ _ _ _ _ h5]; exact R.out⟩
    · have c5 : decide ((500 : Int) < (out.length : Int)) = false := decide_eq_false (by omega)
      have c6 : decide ((t.size : Int) = (worn.size : Int)) = false := decide_eq_false (by omega)
      have c7 : ((t.size : Int) == (worn.size : Int)) = false := beq_eq_false_iff_ne.2 (by omega)
      have p1 := eq_true (show 0 ≤ (t.size : Int) by omega)
      have q1 := eq_true (show (t.size : Int) < (worn.size : Int) by omega)
      have q2 := eq_true (show t.size < worn.size by omega)
      have hx : ∀ h : t.size < worn.size, ((worn[t.size]'h).toNat : Int) = bt worn (t.size : Int) := fun h => by simp [bt, h]
      by_cases h63 : bt worn (t.size : Int) = 63
      · have d1 : decide (bt worn (t.size : Int) = 63) = true := decide_eq_true h63
        have d2 : (bt worn (t.size : Int) == 63) = true := beq_iff_eq.2 h63
        have d3 : (bt worn (t.size : Int) != 63) = false := by rw [bne, d2]; rfl
        have E63 := Lib.hid h63
        clear h63
        go_enter Tryd.func68, Tryd.ntmps68
        go_wp2
        clear hd0 hd2 hd3 p1 q1 q2 hx d1 d2 d3 c5 c6 c7
        go_loopw [5] (fun i wr => FrInv w0 Wb gs g s m AL cl ls worn n t out i wr) (fun i _ => ls.length - (intOf i).toNat)
        case atStart => exact ⟨0, _, out, Nat.zero_le _, rfl, F, BK, R, Lib.hid rfl, Lib.hid hl⟩
        case round =>
          clear F BK R
          obtain ⟨j, v, o, hj, rfl, F, BK, R, HO, HL⟩ := hrel
          have hd1 := (blk_cell BK.out 1).trans rfl
          have HSZ := Lib.hid (show Wb.heap.size ≤ wr.heap.size from F.out.keep.1)
          by_cases hlj : j < ls.length
          · have hlj2 : (j : Int) < (ls.length : Int) := by omega
            obtain ⟨ad, ea, hx⟩ := Kd.at_int (HLS.out _ F.out.keep) (j : Nat) (by omega) (by omega)
            cases ea
            simp only [Int.toNat_natCast] at hx
            obtain ⟨Y, hY⟩ : ∃ Y, Y = rd ls (j : Int) := ⟨_, rfl⟩
            rw [← hY] at hx
            obtain ⟨sb, hsb⟩ : ∃ sb, sb = strOfNums [Y] := ⟨_, rfl⟩
            have zs : sb.size = 1 := by rw [hsb]; rfl
            have BP := Lib.hid (heap_alloc_new _ (.cells #[.int .u8 Y] 5) : (wr.alloc (.cells #[.int .u8 Y] 5)).heap[wr.heap.size]? = _)
            have hcv := run_convert_bytes_arg (P := Tryd.prog) (wr.alloc (.cells #[.int .u8 Y] 5)) 57 5 Tryd.underlying57 Tryd.underlying5 wr.heap.size 0 1 1 [Y] rfl (fun i hi => by obtain rfl : i = 0 := (by omega); exact (blk_cell BP.out 0).trans rfl) 9 Tryd.underlying9
            rw [← hsb] at hcv
            have y1 : decide (t.size + sb.size ≤ 9223372036854775807) = true := decide_eq_true (by omega)
            have y2 : (9223372036854775807 < t.size + sb.size) = False := eq_false (by omega)
            have HZ := Lib.hid (show worn.size = (t ++ sb).size + n from by have := HN.out; rw [ByteArray.size_append, zs]; omega)
            have HY := Lib.hid (show rd ls (j : Int) = ls[j] from rd_get ls j hlj)
            have HS := Lib.hid (show fromF (rightB s m) ls worn n (t ++ sb) o = (ls.take (j + 1)).foldl (fun o c => fromF (rightB s m) ls worn n (t ++ strOfNums [c]) o) out from by rw [List.take_succ_eq_append_getElem hlj, List.foldl_append, ← HO.out, hsb, hY, HY.out]; rfl)
            have HL2 := Lib.hid (fromF_len (rightB s m) ls worn n (t ++ sb) o HL.out)
            clear zs hsb hY BP HY HO
            go_wp2_with (first | (go_at_call 68; with_reducible refine (IH.out (t ++ sb) v o _ HZ.out HL.out (F.out.below (below_size2 _ (below_alloc (Below.refl _ _) _) HSZ.out)) (blk_alloc BK.out _) (Kd.R_alloc R.out _)).mono ?_; rintro e w2 ⟨rfl, v2, hF2, hB2, hR2⟩; have F2 := Lib.hid hF2; have BK2 := Lib.hid hB2; have R2 := Lib.hid hR2; clear hF2 hB2 hR2))
            go_roundw
            case measure =>
              show ls.length - ((j : Int) + 1).toNat < ls.length - (j : Int).toNat
              omega
            case rel =>
              exact ⟨j + 1, v2, _, by omega, (show Value.int .i64 ((j : Int) + 1) = .int .i64 ((j + 1 : Nat) : Int) by congr), F2, BK2, R2, HS, HL2⟩
          · have hlj2 : ¬ (j : Int) < (ls.length : Int) := by omega
            go_wp2
            go_end0
            refine ⟨rfl, F.out, _, BK.out, ?_⟩
            have e1 := HO.out
            rw [List.take_of_length_le (by omega)] at e1
            unfold fromF
            rw [if_neg h5, if_pos E63.out, ← e1]
            exact R.out
      · have d1 : decide (bt worn (t.size : Int) = 63) = false := decide_eq_false h63
        have d2 : (bt worn (t.size : Int) == 63) = false := beq_eq_false_iff_ne.2 h63
        have E63 := Lib.hid h63
        clear h63
        obtain ⟨X, hX⟩ : ∃ X, X = worn.extract t.size (t.size + 1) := ⟨_, rfl⟩
        have zX : X.size = 1 := by rw [hX, ByteArray.size_extract]; omega
        have hsl : ∀ W : World, (Instr.slice 9 (.string worn) (some (.int .i64 (t.size : Int))) (some (.int .i64 ((t.size : Int) + 1))) none).run Tryd.prog W = .ok (.string X) W := fun W => by
          have := run_slice_string (P := Tryd.prog) (w := W) 9 worn .i64 .i64 (t.size : Int) ((t.size : Int) + 1) Tryd.underlying9 (by omega) (by omega) (by omega)
          rw [this, hX]
          rfl
        have HX := Lib.hid hX
        have zt := hw16
        have y1 : decide (t.size + X.size ≤ 9223372036854775807) = true := decide_eq_true (by omega)
        have y2 : (9223372036854775807 < t.size + X.size) = False := eq_false (by omega)
        have HZ := Lib.hid (show worn.size = (t ++ X).size + n from by have := HN.out; rw [ByteArray.size_append, zX]; omega)
        clear hX zX
        go_enter Tryd.func68, Tryd.ntmps68
        go_wp2_with (first | (go_at_call 68; with_reducible refine (IH.out (t ++ X) _ out _ HZ.out hl F.out BK.out R.out).mono ?_; rintro e w2 ⟨rfl, v2, hF2, hB2, hR2⟩; have F2 := Lib.hid hF2; have BK2 := Lib.hid hB2; have R2 := Lib.hid hR2; clear hF2 hB2 hR2))
        ((try simp only [Exit.inBlock, Exit.then]); refine bodyPost_ret (results_none rfl _ _ _) rfl ?_)
        refine ⟨rfl, _, F2.out, BK2.out, ?_⟩
        unfold fromF
        rw [if_neg h5, if_neg E63.out, ← HX.out]
        exact R2.out
end Go.Proofs.YtdhhnkhgmoblhaaDoor.Q
end
section
/- spec.l03Readings and spec.Readings by hand: all readings of a worn number, and the code. -/
namespace Go.Proofs.YtdhhnkhgmoblhaaDoor.Q
open Go.RowKit Go.Proofs.YtdhhnkhgmoblhaaDoorW.PrintWords Go.Proofs.YtdhhnkhgmoblhaaDoorW.PrintLast Go.Proofs.YtdhhnkhgmoblhaaDoorW.PrintMore
open Go.Proofs.YtdhhnkhgmoblhaaDoor.Pure
set_option linter.unusedVariables false
set_option linter.unusedSimpArgs false

/-- The letters of all signs, ascending. -/
def lettersB (s : List SG) : List Int := ((List.range 26).map (fun i => (65 : Int) + (i : Nat))).filter (fun c => decide (valB s c > 0))
def goneTo (worn : ByteArray) : Nat → Nat
  | 0 => 0
  | i + 1 => if bt worn (i : Nat) = 63 then goneTo worn i + 1 else goneTo worn i
def placeB (s : List SG) (worn : ByteArray) (i : Nat) : Bool := decide (bt worn (i : Nat) = 63) || !decide (valB s (bt worn (i : Nat)) = 0)
def readS (s : List SG) (m : List MP) (worn : ByteArray) : List ByteArray × Int :=
  if okB s m = true then
    if (List.range worn.size).all (placeB s worn) = true then
      if worn.size ≤ 16 then
        if goneTo worn worn.size ≤ 4 then
          if (fromF (rightB s m) (lettersB s) worn worn.size ⟨#[]⟩ []).length ≤ 500 then (fromF (rightB s m) (lettersB s) worn worn.size ⟨#[]⟩ [], 0) else ([], 3)
        else ([], 3)
      else ([], 5)
    else ([], 5)
  else ([], 1)
theorem below_size3 {w W : World} {B C : Nat} (h : Below B w W) (hB : C ≤ B) : Below C w W := ⟨h.os, h.tape, h.output, h.size, fun i hi => h.block i (by omega)⟩
theorem goneTo_le (worn : ByteArray) : ∀ i, goneTo worn i ≤ i := by
  intro i
  induction i with
  | zero => exact Nat.le_refl _
  | succ i ih => unfold goneTo; split <;> omega
theorem lettersB_len (s : List SG) : (lettersB s).length ≤ 26 := by
  unfold lettersB
  refine Nat.le_trans (List.length_filter_le _ _) ?_
  simp
theorem spec_l03Letters.val (s : List SG) (m : List MP) (hs : s.length ≤ 1048576) (hf : fitB s) (k : Nat) (hk : 1048700 ≤ k) : spec_l03Letters.f k s m = some (lettersB s) := by
  unfold spec_l03Letters.f lettersB
  have key : ∀ (d i k : Nat) (acc : List Int), i + d = 26 → 1048577 + d < k → acc.length ≤ i → spec_l03Letters.l0 k acc ((65 : Int) + (i : Nat)) s m = some (acc ++ (((List.range' i d).map (fun j => (65 : Int) + (j : Nat))).filter (fun c => decide (valB s c > 0)))) := by
    intro d
    induction d with
    | zero =>
      intro i k acc hi hk ha
      obtain ⟨k, rfl⟩ : ∃ j, k = j + 1 := ⟨k - 1, by omega⟩
      simp only [spec_l03Letters.l0]
      rw [if_neg (by omega)]
      simp
    | succ d ih =>
      intro i k acc hi hk ha
      obtain ⟨k, rfl⟩ : ∃ j, k = j + 1 := ⟨k - 1, by omega⟩
      simp only [spec_l03Letters.l0]
      have e1 : ((65 : Int) + (i : Nat) + 1) % 256 = (65 : Int) + ((i + 1 : Nat) : Int) := by omega
      rw [if_pos (by omega), spec_l03Value.val s m _ hs (fit16_of hf) k (by omega), Option.bind_some, e1, List.range'_succ, List.map_cons, List.filter_cons]
      by_cases h : valB s ((65 : Int) + (i : Nat)) > 0
      · rw [if_pos h, if_pos (by omega), ih (i + 1) k _ (by omega) (by omega) (by rw [List.length_append]; simp only [List.length_singleton]; omega), if_pos (decide_eq_true h), List.append_assoc]
        rfl
      · rw [if_neg h, ih (i + 1) k _ (by omega) (by omega) (by omega), if_neg (by rw [decide_eq_false h]; simp)]
  have := key 26 0 k [] (by omega) (by omega) (by simp)
  rw [List.nil_append] at this
  rw [List.range_eq_range']
  exact this
def bigR (s : List SG) (m : List MP) (worn : ByteArray) : Prop := s.length ≤ 1048576 ∧ m.length ≤ 1048576 ∧ (s.all (fun x => decide (-32768 ≤ x.f1) && decide (x.f1 ≤ 32767))) = true ∧ worn.size ≤ 1048576

set_option maxRecDepth 20000 in
set_option maxHeartbeats 4000000 in
theorem spec_l03Readings.callsT (g : Nat) (s : List SG) (m : List MP) (worn : ByteArray) (w0 w : World) (hI : IsS30 w0 w g s m) (hB : Below w0.heap.size w0 w) (hf : bigR s m worn) :
    Calls Tryd.prog 34 #[.pointer (some ⟨g, 0, none⟩), .string worn] w fun e w' => ∃ v0_ : Value, e = .returned (.tuple #[v0_, .int .i64 (readS s m worn).2]) ∧ Kd.R Kd.string 9 w' w.heap.size (fun k => k ≠ g) v0_ (readS s m worn).1 ∧ IsS30 w0 w' g s m ∧ Below w0.heap.size w0 w' ∧ KeepBut w w' g none := by
  obtain ⟨hls, hlm, hfb, hws⟩ := hf
  have HFB := Lib.hid (show fitB s from hfb)
  have HV := Lib.hid (fun c => spec_l03Value.val s m c hls (fit16_of hfb) 1048577 (by omega))
  have HI := Lib.hid hI
  have HB := Lib.hid hB
  have HW0 := Lib.hid hB.size
  have HOK := Lib.hid (show spec_l03Ok.f s m = some (okB s m) from if_pos ⟨hls, hlm, hfb⟩)
  obtain ⟨res, hres⟩ : ∃ res, res = readS s m worn := ⟨_, rfl⟩
  rw [← hres]
  have HRES := Lib.hid hres
  clear hI hB hfb hres
  have NIL : ∀ (W : World), Kd.R Kd.string 9 W w.heap.size (fun k => k ≠ g) (.slice none 0 0) ([] : List ByteArray) := fun W => Kd.R_nil _ _ _ _ _
  cases hok : okB s m with
  | false =>
    rw [hok] at HOK
    have e : res = ([], 1) := by rw [HRES.out]; unfold readS; rw [hok, if_neg (by simp)]
    clear hok NIL
    subst e
    go_enter Tryd.func34, Tryd.ntmps34
    go_wp2_with (first | (go_at_call 25; with_reducible refine (spec_l03Ok.calls g s m false w0 _ HI.out HB.out HOK.out).mono ?_; rintro e w1 ⟨rfl, hi, hb, hk⟩; have HI1 := Lib.hid hi; have HB1 := Lib.hid hb; have HK1 := Lib.hid hk; clear hi hb hk) | ((with_reducible refine gate_dst (N := 12) rfl ?_); refine Kd.R_lit Kd.string (w0 := _) w.heap.size 9 ?hg (N := 12) ?hd (xs := ([] : List ByteArray)) (inner := []) (ok := fun k => k ≠ g) (okp := fun k => k ≠ g) ?hr ?hp (fun _ hk => hk) (HI1.out.fresh _ (Nat.le_refl _)) (Below.refl _ _) (show w.heap.size ≤ _ from HK1.out.1) (by simp) ?_; (case hd => rfl); (case hg => rfl); (case hr => first | (go_simp; done) | (go_simp; rfl)); (case hp => exact (Reps.none _ _)); intro v3 w3 ho hb hg_ hnew_; have HO3 := Lib.hid ho; have HB3 := Lib.hid (HB1.out.trans (below_size3 hb HW0.out)); have HI3 := Lib.hid (HI1.out.grown hg_ (by simp)); have HK3 := Lib.hid (HK1.out.trans (KeepBut.of_grown hg_ g) (.inl rfl)); have HN3 := Lib.hid hnew_; clear ho hb hg_ hnew_))
    go_ret2
    exact ⟨_, rfl, HO3.out, HI3.out, HB3.out, HK3.out⟩
  | true =>
  rw [hok] at HOK
  have HT := Lib.hid hok
  clear hok NIL
  go_enter Tryd.func34, Tryd.ntmps34
  go_wp2_with (first | (go_at_call 25; with_reducible refine (spec_l03Ok.calls g s m true w0 _ HI.out HB.out HOK.out).mono ?_; rintro e w1 ⟨rfl, hi, hb, hk⟩; have HI1 := Lib.hid hi; have HB1 := Lib.hid hb; have HK1 := Lib.hid hk; clear hi hb hk))
  clear HI HB
  go_loopw [6, 7] (fun c i wr => ∃ j : Nat, j ≤ worn.size ∧ c = .int .i64 (goneTo worn j : Nat) ∧ i = .int .i64 j ∧ RowKit.Hid ((List.range j).all (placeB s worn) = true) ∧ RowKit.Hid (IsS30 w0 wr g s m) ∧ RowKit.Hid (Below w0.heap.size w0 wr) ∧ RowKit.Hid (KeepBut w wr g none)) (fun _ i _ => worn.size - (intOf i).toNat)
  case atStart => exact ⟨0, Nat.zero_le _, rfl, rfl, Lib.hid rfl, HI1, HB1, HK1⟩
  case round =>
    clear HI1 HB1 HK1
    obtain ⟨j, hj, rfl, rfl, HA, HI, HB, HK⟩ := hrel
    by_cases hlt : j < worn.size
    · have hlt2 : (j : Int) < (worn.size : Int) := by omega
      have q1 := eq_true hlt
      have hx : ∀ h : j < worn.size, ((worn[j]'h).toNat : Int) = bt worn (j : Int) := fun h => by simp [bt, h]
      have hgl := goneTo_le worn j
      by_cases h63 : bt worn (j : Int) = 63
      · have d2 : (bt worn (j : Int) == 63) = true := beq_iff_eq.2 h63
        have d3 : decide (bt worn (j : Int) = 63) = true := decide_eq_true h63
        have HS := Lib.hid (show goneTo worn (j + 1) = goneTo worn j + 1 from by rw [goneTo, if_pos h63])
        have HA2 := Lib.hid (show (List.range (j + 1)).all (placeB s worn) = true from by rw [List.range_succ, List.all_append, HA.out]; simp [placeB, h63])
        clear h63
        obtain ⟨gn, hgn⟩ : ∃ gn, gn = goneTo worn j := ⟨_, rfl⟩
        rw [← hgn] at HS hgl ⊢
        clear hgn
        go_wp2
        go_roundw
        case measure => simp only [intOf]; omega
        case rel => exact ⟨j + 1, by omega, by rw [HS.out]; go_num, by go_num, HA2, HI, HB, HK⟩
      · have d2 : (bt worn (j : Int) == 63) = false := beq_eq_false_iff_ne.2 h63
        have d3 : decide (bt worn (j : Int) = 63) = false := decide_eq_false h63
        have HS := Lib.hid (show goneTo worn (j + 1) = goneTo worn j from by rw [goneTo, if_neg h63])
        obtain ⟨Y, hY⟩ : ∃ Y, Y = bt worn (j : Int) := ⟨_, rfl⟩
        have HVY := Lib.hid (HV.out Y)
        by_cases hv : valB s Y = 0
        · have e : res = ([], 5) := by
            rw [HRES.out]; unfold readS
            rw [if_pos HT.out, if_neg]
            intro hall
            have := List.all_eq_true.1 hall j (List.mem_range.2 hlt)
            unfold placeB at this
            rw [d3, ← hY, hv] at this
            simp at this
          rw [hv] at HVY
          clear h63 hv
          subst e
          rw [← hY] at hx d2 d3
          clear hY
          obtain ⟨gn, hgn⟩ : ∃ gn, gn = goneTo worn j := ⟨_, rfl⟩
          rw [← hgn]
          clear hgn HS
          go_wp2_with (first | (go_at_call 50; with_reducible refine (spec_l03Value.calls 1048577 g s m Y 0 w0 _ HI.out HB.out HVY.out).mono ?_; rintro e w1 ⟨rfl, hi, hb, hk⟩; have HI1 := Lib.hid hi; have HB1 := Lib.hid hb; have HK1 := Lib.hid (HK.out.trans hk (.inl rfl)); clear hi hb hk) | ((with_reducible refine gate_dst (N := 31) rfl ?_); refine Kd.R_lit Kd.string (w0 := _) w.heap.size 9 ?hg (N := 31) ?hd (xs := ([] : List ByteArray)) (inner := []) (ok := fun k => k ≠ g) (okp := fun k => k ≠ g) ?hr ?hp (fun _ hk => hk) (HI1.out.fresh _ (Nat.le_refl _)) (Below.refl _ _) (show w.heap.size ≤ _ from HK1.out.1) (by simp) ?_; (case hd => rfl); (case hg => rfl); (case hr => first | (go_simp; done) | (go_simp; rfl)); (case hp => exact (Reps.none _ _)); intro v3 w3 ho hb hg_ hnew_; have HO3 := Lib.hid ho; have HB3 := Lib.hid (HB1.out.trans (below_size3 hb HW0.out)); have HI3 := Lib.hid (HI1.out.grown hg_ (by simp)); have HK3 := Lib.hid (HK1.out.trans (KeepBut.of_grown hg_ g) (.inl rfl)); have HN3 := Lib.hid hnew_; clear ho hb hg_ hnew_))
          go_ret2
          exact ⟨_, rfl, HO3.out, HI3.out, HB3.out, HK3.out⟩
        · have HA2 := Lib.hid (show (List.range (j + 1)).all (placeB s worn) = true from by rw [List.range_succ, List.all_append, HA.out]; simp [placeB, h63, ← hY, hv])
          have d4 : (valB s Y == 0) = false := beq_eq_false_iff_ne.2 hv
          have d5 : decide (valB s Y = 0) = false := decide_eq_false hv
          obtain ⟨vy, hvy⟩ : ∃ vy, vy = valB s Y := ⟨_, rfl⟩
          rw [← hvy] at HVY d4 d5
          clear h63 hv hvy
          rw [← hY] at hx d2 d3
          clear hY
          obtain ⟨gn, hgn⟩ : ∃ gn, gn = goneTo worn j := ⟨_, rfl⟩
          rw [← hgn] at HS ⊢
          clear hgn
          go_wp2_with (first | (go_at_call 50; with_reducible refine (spec_l03Value.calls 1048577 g s m Y vy w0 _ HI.out HB.out HVY.out).mono ?_; rintro e w1 ⟨rfl, hi, hb, hk⟩; have HI1 := Lib.hid hi; have HB1 := Lib.hid hb; have HK1 := Lib.hid (HK.out.trans hk (.inl rfl)); clear hi hb hk))
          go_roundw
          case measure => simp only [intOf]; omega
          case rel => exact ⟨j + 1, by omega, by rw [HS.out], by go_num, HA2, HI1, HB1, HK1⟩
    · have hlt2 : ¬ (j : Int) < (worn.size : Int) := by omega
      have ej : j = worn.size := by omega
      subst ej
      obtain ⟨gn, hgn⟩ : ∃ gn, gn = goneTo worn worn.size := ⟨_, rfl⟩
      rw [← hgn]
      by_cases h16 : worn.size ≤ 16
      rotate_left
      · have e : res = ([], 5) := by rw [HRES.out]; unfold readS; rw [if_pos HT.out, if_pos HA.out, if_neg h16]
        subst e
        have c1 : decide ((16 : Int) < (worn.size : Int)) = true := decide_eq_true (by omega)
        clear hgn
        go_wp2_with (first | ((with_reducible refine gate_dst (N := 35) rfl ?_); refine Kd.R_lit Kd.string (w0 := _) w.heap.size 9 ?hg (N := 35) ?hd (xs := ([] : List ByteArray)) (inner := []) (ok := fun k => k ≠ g) (okp := fun k => k ≠ g) ?hr ?hp (fun _ hk => hk) (HI.out.fresh _ (Nat.le_refl _)) (Below.refl _ _) (show w.heap.size ≤ _ from HK.out.1) (by simp) ?_; (case hd => rfl); (case hg => rfl); (case hr => first | (go_simp; done) | (go_simp; rfl)); (case hp => exact (Reps.none _ _)); intro v3 w3 ho hb hg_ hnew_; have HO3 := Lib.hid ho; have HB3 := Lib.hid (HB.out.trans (below_size3 hb HW0.out)); have HI3 := Lib.hid (HI.out.grown hg_ (by simp)); have HK3 := Lib.hid (HK.out.trans (KeepBut.of_grown hg_ g) (.inl rfl)); have HN3 := Lib.hid hnew_; clear ho hb hg_ hnew_))
        go_ret2
        exact ⟨_, rfl, HO3.out, HI3.out, HB3.out, HK3.out⟩
      have c1 : decide ((16 : Int) < (worn.size : Int)) = false := decide_eq_false (by omega)
      by_cases h4 : gn ≤ 4
      rotate_left
      · have e : res = ([], 3) := by rw [HRES.out]; unfold readS; rw [if_pos HT.out, if_pos HA.out, if_pos h16, ← hgn, if_neg h4]
        subst e
        have c2 : decide ((4 : Int) < (gn : Int)) = true := decide_eq_true (by omega)
        clear hgn
        go_wp2_with (first | ((with_reducible refine gate_dst (N := 38) rfl ?_); refine Kd.R_lit Kd.string (w0 := _) w.heap.size 9 ?hg (N := 38) ?hd (xs := ([] : List ByteArray)) (inner := []) (ok := fun k => k ≠ g) (okp := fun k => k ≠ g) ?hr ?hp (fun _ hk => hk) (HI.out.fresh _ (Nat.le_refl _)) (Below.refl _ _) (show w.heap.size ≤ _ from HK.out.1) (by simp) ?_; (case hd => rfl); (case hg => rfl); (case hr => first | (go_simp; done) | (go_simp; rfl)); (case hp => exact (Reps.none _ _)); intro v3 w3 ho hb hg_ hnew_; have HO3 := Lib.hid ho; have HB3 := Lib.hid (HB.out.trans (below_size3 hb HW0.out)); have HI3 := Lib.hid (HI.out.grown hg_ (by simp)); have HK3 := Lib.hid (HK.out.trans (KeepBut.of_grown hg_ g) (.inl rfl)); have HN3 := Lib.hid hnew_; clear ho hb hg_ hnew_))
        go_ret2
        exact ⟨_, rfl, HO3.out, HI3.out, HB3.out, HK3.out⟩
      have c2 : decide ((4 : Int) < (gn : Int)) = false := decide_eq_false (by omega)
      have HLT := Lib.hid (spec_l03Letters.val s m hls HFB.out 1048700 (by omega))
      obtain ⟨ls, hlsd⟩ : ∃ ls, ls = lettersB s := ⟨_, rfl⟩
      have hll : ls.length ≤ 26 := by rw [hlsd]; exact lettersB_len s
      rw [← hlsd] at HLT
      obtain ⟨fr, hfr⟩ : ∃ fr, fr = fromF (rightB s m) ls worn worn.size ⟨#[]⟩ [] := ⟨_, rfl⟩
      have hfl : fr.length ≤ 501 := by rw [hfr]; exact fromF_len _ _ _ _ _ _ (by simp)
      have HRS := Lib.hid (show res = if fr.length ≤ 500 then (fr, 0) else ([], 3) from by rw [HRES.out]; unfold readS; rw [if_pos HT.out, if_pos HA.out, if_pos h16, ← hgn, if_pos h4, ← hlsd, ← hfr])
      have HRT := Lib.hid (fun (t : ByteArray) (ht : t.size ≤ 16) => spec_l03Right.val s m t hls hlm HFB.out ht 2097160 (by omega))
      have HLL := Lib.hid hll
      clear hgn hll HA hlsd
      have HN0 := Lib.hid (show worn.size = (⟨#[]⟩ : ByteArray).size + worn.size from by show _ = 0 + _; omega)
      have HFR := Lib.hid hfr
      have H16 := Lib.hid h16
      by_cases h500 : fr.length ≤ 500
      · have c5 : decide ((500 : Int) < (fr.length : Int)) = false := decide_eq_false (by omega)
        have e : res = (fr, 0) := by rw [HRS.out, if_pos h500]
        subst e
        clear hfr
        go_wp2_with (first | (go_at_call 67; with_reducible refine (spec_l03Letters.calls 1048700 g s m ls w0 _ HI.out HB.out HLT.out).mono ?_; rintro e w1 ⟨v1, rfl, hr, hi, hb, hk⟩; have HI1 := Lib.hid hi; have HB1 := Lib.hid hb; obtain ⟨AL, cl, rfl⟩ := Kd.R_slice hr; have HL1 := Lib.hid (Kd.R_bound hr); have HLS := Lib.hid (fun (W : World) (hk : KeepBut w1 W g none) => (Kd.R_reads' (Kd.R_keep HL1.out hk (fun k hk2 => by have := HI.out.lt; have := hk2.2.1; omega))).2.2); have HK1 := Lib.hid (HK.out.trans hk (.inl rfl)); have FR := Lib.hid (show Fr w0 w1 (w1.alloc (.cells #[.pointer (some ⟨g, 0, none⟩), .slice AL ls.length cl, .string worn, .slice none 0 0] 100)) g s m from ⟨keep_alloc (KeepBut.refl _ _ _) _, HI1.out.alloc _, below_alloc HB1.out _, HI1.out.lt⟩); clear hr hi hb hk) | (go_at_call 68; with_reducible refine (spec_l03Read_from.calls w0 w1 g w1.heap.size s m AL cl ls worn rfl HLS.out HLL.out H16.out HRT.out worn.size ⟨#[]⟩ (.slice none 0 0) [] _ HN0.out (Nat.zero_le _) FR.out (heap_alloc_new w1 _) (Kd.R_nil _ _ _ _ _)).mono ?_; rintro e w2 ⟨rfl, v2, hF2, hB2, hR2⟩; rw [← HFR.out] at hR2; obtain ⟨A2, c2, rfl⟩ := Kd.R_slice hR2; have F2 := Lib.hid hF2; have HK2 := Lib.hid (HK1.out.trans hF2.keep (.inl rfl)); have BK2 := Lib.hid hB2; have R2 := Lib.hid hR2; have hy3 := (blk_cell BK2.out 3).trans rfl; clear hF2 hB2 hR2) | ((with_reducible refine gate_dst (N := 54) rfl ?_); refine Kd.R_lit Kd.string (w0 := _) w.heap.size 9 ?hg (N := 54) ?hd (xs := ([] : List ByteArray)) (inner := []) (ok := fun k => k ≠ g) (okp := fun k => k ≠ g) ?hr ?hp (fun _ hk => hk) (F2.out.isS.fresh _ (Nat.le_refl _)) (Below.refl _ _) (show w.heap.size ≤ _ from HK2.out.1) (by simp) ?_; (case hd => rfl); (case hg => rfl); (case hr => first | (go_simp; done) | (go_simp; rfl)); (case hp => exact (Reps.none _ _)); intro v3 w3 ho hb hg_ hnew_; have HO3 := Lib.hid ho; have HB3 := Lib.hid (F2.out.low.trans (below_size3 hb HW0.out)); have HI3 := Lib.hid (F2.out.isS.grown hg_ (by simp)); have R3 := Lib.hid (Kd.R_reads' (Kd.R_grown R2.out hg_ (fun _ _ => by simp))).2.2; have BK3 := Lib.hid (blk_grown BK2.out hg_ (by simp)); have hz3 := (blk_cell BK3.out 3).trans rfl; have HK3 := Lib.hid (HK2.out.trans (KeepBut.of_grown hg_ g) (.inl rfl)); have HN3 := Lib.hid hnew_; have HS3 := Lib.hid (show w.heap.size ≤ w3.heap.size from HK3.out.1); have HS2 := Lib.hid (show w.heap.size ≤ w2.heap.size from HK2.out.1); clear ho hb hg_ hnew_ hy3) | ((with_reducible refine gate_builtin (b := .append) (xs := #[.tmp 54, .tmp 58]) rfl ?_); at_builtin; refine Kd.R_append_rows Kd.string (w0 := w3) w.heap.size rfl (.tmp 54) (.tmp 58) 37 9 (.string ⟨#[]⟩) 16 rfl Tryd.underlying37 info9 rfl (by decide) (by omega) v3 [] fr _ _ _ (fun k => k ≠ g) (fun _ => False) rfl rfl ?aO ?aR (fun _ _ h => h) (fun _ h => h.elim) ?aF ?aB ?aS ?aL ?_; (case aO => exact HO3.out); (case aR => exact R3.out); (case aF => exact HI3.out.fresh); (case aB => exact Below.refl _ _); (case aS => exact HS3.out); (case aL => simp; omega); intro v4 w4 ho hb hg hat; have HO4 := Lib.hid ho; have HB4 := Lib.hid (HB3.out.trans (below_size3 hb HW0.out)); have HI4 := Lib.hid (HI3.out.grown hg (HI3.out.own_ne HO3.out (by decide))); have HK4 := Lib.hid (HK3.out.trans (KeepBut.of_grown hg g) (.inr (by obtain ⟨b, e1, e2⟩ := HN3.out; exact ⟨b, e1, Nat.le_trans HS2.out e2⟩))); clear ho hb hg hat))
        go_ret2
        exact ⟨_, rfl, by simpa using HO4.out, HI4.out, HB4.out, HK4.out⟩
      · have c5 : decide ((500 : Int) < (fr.length : Int)) = true := decide_eq_true (by omega)
        have e : res = ([], 3) := by rw [HRS.out, if_neg h500]
        subst e
        clear hfr
        go_wp2_with (first | (go_at_call 67; with_reducible refine (spec_l03Letters.calls 1048700 g s m ls w0 _ HI.out HB.out HLT.out).mono ?_; rintro e w1 ⟨v1, rfl, hr, hi, hb, hk⟩; have HI1 := Lib.hid hi; have HB1 := Lib.hid hb; obtain ⟨AL, cl, rfl⟩ := Kd.R_slice hr; have HL1 := Lib.hid (Kd.R_bound hr); have HLS := Lib.hid (fun (W : World) (hk : KeepBut w1 W g none) => (Kd.R_reads' (Kd.R_keep HL1.out hk (fun k hk2 => by have := HI.out.lt; have := hk2.2.1; omega))).2.2); have HK1 := Lib.hid (HK.out.trans hk (.inl rfl)); have FR := Lib.hid (show Fr w0 w1 (w1.alloc (.cells #[.pointer (some ⟨g, 0, none⟩), .slice AL ls.length cl, .string worn, .slice none 0 0] 100)) g s m from ⟨keep_alloc (KeepBut.refl _ _ _) _, HI1.out.alloc _, below_alloc HB1.out _, HI1.out.lt⟩); clear hr hi hb hk) | (go_at_call 68; with_reducible refine (spec_l03Read_from.calls w0 w1 g w1.heap.size s m AL cl ls worn rfl HLS.out HLL.out H16.out HRT.out worn.size ⟨#[]⟩ (.slice none 0 0) [] _ HN0.out (Nat.zero_le _) FR.out (heap_alloc_new w1 _) (Kd.R_nil _ _ _ _ _)).mono ?_; rintro e w2 ⟨rfl, v2, hF2, hB2, hR2⟩; rw [← HFR.out] at hR2; obtain ⟨A2, c2, rfl⟩ := Kd.R_slice hR2; have F2 := Lib.hid hF2; have HK2 := Lib.hid (HK1.out.trans hF2.keep (.inl rfl)); have BK2 := Lib.hid hB2; have R2 := Lib.hid hR2; have hy3 := (blk_cell BK2.out 3).trans rfl; clear hF2 hB2 hR2) | ((with_reducible refine gate_dst (N := 53) rfl ?_); refine Kd.R_lit Kd.string (w0 := _) w.heap.size 9 ?hg (N := 53) ?hd (xs := ([] : List ByteArray)) (inner := []) (ok := fun k => k ≠ g) (okp := fun k => k ≠ g) ?hr ?hp (fun _ hk => hk) (F2.out.isS.fresh _ (Nat.le_refl _)) (Below.refl _ _) (show w.heap.size ≤ _ from HK2.out.1) (by simp) ?_; (case hd => rfl); (case hg => rfl); (case hr => first | (go_simp; done) | (go_simp; rfl)); (case hp => exact (Reps.none _ _)); intro v3 w3 ho hb hg_ hnew_; have HO3 := Lib.hid ho; have HB3 := Lib.hid (F2.out.low.trans (below_size3 hb HW0.out)); have HI3 := Lib.hid (F2.out.isS.grown hg_ (by simp)); have HK3 := Lib.hid (HK2.out.trans (KeepBut.of_grown hg_ g) (.inl rfl)); have HN3 := Lib.hid hnew_; clear ho hb hg_ hnew_))
        go_ret2
        exact ⟨_, rfl, HO3.out, HI3.out, HB3.out, HK3.out⟩
theorem spec_Readings.callsT (A0 : Option Addr) (c0 : Nat) (s : List SG) (A1 : Option Addr) (c1 : Nat) (m : List MP) (worn : ByteArray) (w : World) (hr0 : Kd.C k56 w A0 s.length s) (hc0 : s.length ≤ c0) (hr1 : Kd.C k59 w A1 m.length m) (hc1 : m.length ≤ c1) (hf : bigR s m worn) :
    Calls Tryd.prog 14 #[.agg #[.slice A0 s.length c0, .slice A1 m.length c1], .string worn] w fun e w' => ∃ v0_ : Value, e = .returned (.tuple #[v0_, .int .i64 (readS s m worn).2]) ∧ Kd.R Kd.string 9 w' w.heap.size (fun _ => True) v0_ (readS s m worn).1 ∧ Below w.heap.size w w' := by
  have HC := Lib.hid (spec_l03Readings.callsT w.heap.size s m worn w _ (isS_new hr0 hr1 (c0_0 := c0) (c0_1 := c1)) (below_alloc (Below.refl _ _) _) hf)
  clear hr0 hr1
  go_enter Tryd.func14, Tryd.ntmps14
  go_wp2_with (first | (go_at_call 34; with_reducible refine HC.out.mono ?_; rintro e w1 ⟨v1, rfl, hR, hi, hb, _⟩; have HR := Lib.hid hR; have HB := Lib.hid hb; clear hR hi hb))
  go_ret2
  exact ⟨_, rfl, Kd.R_lower (Kd.R_mono HR.out (fun _ _ => trivial)) (by simp), HB.out⟩
end Go.Proofs.YtdhhnkhgmoblhaaDoor.Q
end
section
/- strings.ReplaceAll of one byte by nothing; no condition. -/
namespace Go.Proofs.YtdhhnkhgmoblhaaDoor.Q
open Go.RowKit Go.Proofs.YtdhhnkhgmoblhaaDoorW.PrintWords
set_option linter.unusedVariables false

theorem occ_one (l : List UInt8) (c : UInt8) (i : Nat) : Lib.occAt l [c] i = true ↔ l[i]? = some c := by
  unfold Lib.occAt
  have e0 : (l.drop i)[0]? = l[i]? := by rw [List.getElem?_drop]; rfl
  rw [← e0]
  rcases l.drop i with _ | ⟨x, t⟩
  · simp [List.isPrefixOf]
  · simp only [List.isPrefixOf, Bool.and_true, beq_iff_eq, List.getElem?_cons_zero, Option.some.injEq]
    exact ⟨fun h => h.symm, fun h => h.symm⟩
theorem filter_none (l : List UInt8) (c : UInt8) (h : ∀ i : Nat, l[i]? ≠ some c) : l.filter (fun x => x != c) = l := by
  rw [List.filter_eq_self]
  intro x hx
  obtain ⟨i, hi⟩ := List.getElem?_of_mem hx
  have := h i
  rw [hi] at this
  simpa using this
theorem replace_one (c : UInt8) : ∀ (fuel : Nat) (s : List UInt8), s.length < fuel → Lib.replaceK [c] [] (Lib.countFrom [c] fuel s) s = s.filter (fun x => x != c) := by
  intro fuel
  induction fuel with
  | zero => intro s h; omega
  | succ fuel ih =>
    intro s h
    rcases Lib.index_spec s [c] with ⟨hi, hn⟩ | ⟨i, hi, hle, ho, hno⟩
    · rw [Lib.countFrom, if_pos (by rw [hi]; rfl), Lib.replaceK, filter_none]
      intro i e
      have hlt : i < s.length := (List.getElem?_eq_some_iff.1 e).1
      have := hn i (by omega)
      rw [(occ_one s c i).2 e] at this
      cases this
    · have hne : ¬ (Lib.index s [c] == -1) = true := by rw [hi]; intro e; have := beq_iff_eq.1 e; omega
      have hc := (occ_one s c i).1 ho
      have hlt : i < s.length := (List.getElem?_eq_some_iff.1 hc).1
      have ht : (Lib.index s [c]).toNat = i := by rw [hi]; rfl
      rw [Lib.countFrom, if_neg hne, ht, Nat.add_comm, Lib.replaceK_hit [c] [] _ s i hi]
      have hd : (s.drop (i + 1)).length < fuel := by rw [List.length_drop]; omega
      show s.take i ++ [] ++ Lib.replaceK [c] [] (Lib.countFrom [c] fuel (s.drop (i + 1))) (s.drop (i + 1)) = _
      rw [ih _ hd]
      have hs : s = s.take i ++ c :: s.drop (i + 1) := by
        have e1 : s.drop i = s[i] :: s.drop (i + 1) := List.drop_eq_getElem_cons hlt
        have e2 : s[i] = c := by have := (List.getElem?_eq_some_iff.1 hc).2; exact this
        rw [← e2, ← e1, List.take_append_drop]
      have hf : (s.take i).filter (fun x => x != c) = s.take i := filter_none _ _ fun j e => by
        have hj : j < i := by have := (List.getElem?_eq_some_iff.1 e).1; rw [List.length_take] at this; omega
        rw [List.getElem?_take_of_lt hj] at e
        have := hno j hj
        rw [(occ_one s c j).2 e] at this
        cases this
      conv => rhs; rw [hs]
      rw [List.filter_append, hf, List.filter_cons_of_neg (by simp), List.append_nil]
theorem replaceAll_one (s : List UInt8) (c : UInt8) : Lib.replaceAll s [c] [] = s.filter (fun x => x != c) := by
  unfold Lib.replaceAll Lib.replace Lib.replaceNum Lib.count
  rw [if_neg (by simp), if_pos (Or.inl (by decide))]
  exact replace_one c _ s (by omega)
end Go.Proofs.YtdhhnkhgmoblhaaDoor.Q
end
section
/- The readings of a worn number, as the program lists them; no condition. -/
namespace Go.Proofs.YtdhhnkhgmoblhaaDoor.Q
open Go.RowKit Go.Proofs.YtdhhnkhgmoblhaaDoorW.PrintWords Go.Proofs.YtdhhnkhgmoblhaaDoor.Pure
set_option linter.unusedVariables false

/-- What may stand behind a text at place i. -/
def nextP (ls : List Int) (worn : ByteArray) (i : Nat) (b : ByteArray) : List ByteArray := if bt worn (i : Nat) = 63 then ls.map (fun c => b ++ strOfNums [c]) else [b ++ worn.extract i (i + 1)]
def prodF (ls : List Int) (worn : ByteArray) : Nat → List ByteArray
  | 0 => [⟨#[]⟩]
  | i + 1 => (prodF ls worn i).flatMap (nextP ls worn i)
theorem prodF_pos {ls : List Int} {worn : ByteArray} (h : 1 ≤ ls.length) : ∀ i, 1 ≤ (prodF ls worn i).length := by
  intro i
  induction i with
  | zero => exact Nat.le_refl _
  | succ i ih =>
    show 1 ≤ ((prodF ls worn i).flatMap (nextP ls worn i)).length
    cases hp : prodF ls worn i with
    | nil => rw [hp] at ih; simp at ih
    | cons b r =>
      rw [List.flatMap_cons, List.length_append]
      have : 1 ≤ (nextP ls worn i b).length := by
        unfold nextP
        split
        · rw [List.length_map]; exact h
        · exact Nat.le_refl _
      omega
theorem prodF_le {ls : List Int} {worn : ByteArray} (h : ls.length ≤ 8) : ∀ i, (prodF ls worn i).length ≤ 8 ^ goneTo worn i := by
  intro i
  induction i with
  | zero => exact Nat.le_refl _
  | succ i ih =>
    show ((prodF ls worn i).flatMap (nextP ls worn i)).length ≤ _
    have key : ∀ (l : List ByteArray) (n : Nat), (∀ b ∈ l, (nextP ls worn i b).length ≤ n) → (l.flatMap (nextP ls worn i)).length ≤ l.length * n := by
      intro l n
      induction l with
      | nil => intro _; simp
      | cons b l ihl =>
        intro hb
        rw [List.flatMap_cons, List.length_append, List.length_cons, Nat.add_mul, Nat.one_mul]
        have h1 := hb b (List.mem_cons_self ..)
        have h2 := ihl (fun x hx => hb x (List.mem_cons_of_mem _ hx))
        omega
    by_cases h63 : bt worn (i : Nat) = 63
    · have := key (prodF ls worn i) 8 (fun b _ => by unfold nextP; rw [if_pos h63, List.length_map]; exact h)
      rw [goneTo, if_pos h63, Nat.pow_succ]
      exact Nat.le_trans this (Nat.mul_le_mul_right _ ih)
    · have := key (prodF ls worn i) 1 (fun b _ => by unfold nextP; rw [if_neg h63]; exact Nat.le_refl _)
      rw [goneTo, if_neg h63]
      omega
theorem goneTo_mono (worn : ByteArray) {i n : Nat} (h : i ≤ n) : goneTo worn i ≤ goneTo worn n := by
  induction n with
  | zero => have : i = 0 := by omega
            subst this; exact Nat.le_refl _
  | succ n ih =>
    by_cases e : i = n + 1
    · subst e; exact Nat.le_refl _
    · have := ih (by omega)
      rw [goneTo]
      split <;> omega
theorem prodF_len {ls : List Int} {worn : ByteArray} {i : Nat} (h : ls.length ≤ 8) (hi : i ≤ worn.size) (hg : goneTo worn worn.size ≤ 4) : (prodF ls worn i).length ≤ 4096 := by
  have h1 := prodF_le (worn := worn) h i
  have h2 := goneTo_mono worn hi
  have h3 : 8 ^ goneTo worn i ≤ 8 ^ 4 := Nat.pow_le_pow_right (by decide) (by omega)
  exact Nat.le_trans h1 (Nat.le_trans h3 (by decide))
theorem prodF_size (ls : List Int) (worn : ByteArray) : ∀ i, i ≤ worn.size → ∀ x ∈ prodF ls worn i, x.size = i := by
  intro i
  induction i with
  | zero => intro _ x hx; have := List.mem_singleton.1 hx; subst this; rfl
  | succ i ih =>
    intro hi x hx
    obtain ⟨b, hb, hx⟩ := List.mem_flatMap.1 (show x ∈ (prodF ls worn i).flatMap (nextP ls worn i) from hx)
    have h1 := ih (by omega) b hb
    unfold nextP at hx
    split at hx
    · obtain ⟨c, _, rfl⟩ := List.mem_map.1 hx
      rw [ByteArray.size_append, h1]
      rfl
    · have := List.mem_singleton.1 hx
      subst this
      rw [ByteArray.size_append, h1, ByteArray.size_extract]
      omega
theorem flat_len (ls : List Int) (worn : ByteArray) (i : Nat) (h : ls.length ≤ 8) (prev : List ByteArray) (p : Nat) : ((prev.take p).flatMap (nextP ls worn i)).length ≤ prev.length * 8 := by
  have key : ∀ (l : List ByteArray), (l.flatMap (nextP ls worn i)).length ≤ l.length * 8 := by
    intro l
    induction l with
    | nil => simp
    | cons b l ihl =>
      rw [List.flatMap_cons, List.length_append, List.length_cons, Nat.add_mul, Nat.one_mul]
      have : (nextP ls worn i b).length ≤ 8 := by
        unfold nextP
        split
        · rw [List.length_map]; exact h
        · exact (by decide : 1 ≤ 8)
      omega
  have h1 := key (prev.take p)
  have h2 : (prev.take p).length ≤ prev.length := by rw [List.length_take]; omega
  exact Nat.le_trans h1 (Nat.mul_le_mul_right _ h2)
theorem bt_data (t : ByteArray) (i : Nat) (h : i < t.data.toList.length) : bt t (i : Nat) = ((t.data.toList[i]).toNat : Int) := by
  have hs : i < t.size := by simpa using h
  unfold bt
  rw [dif_pos (by simpa using hs)]
  rfl
theorem count_gone (worn : ByteArray) : Lib.countByte worn.data.toList 63 = goneTo worn worn.size := by
  have key : ∀ i, i ≤ worn.data.toList.length → (worn.data.toList.take i).count 63 = goneTo worn i := by
    intro i
    induction i with
    | zero => intro _; rfl
    | succ i ih =>
      intro hi
      have hlt : i < worn.data.toList.length := by omega
      rw [List.take_succ_eq_append_getElem hlt, List.count_append, ih (by omega), goneTo, bt_data worn i hlt]
      by_cases h : worn.data.toList[i] = 63
      · rw [if_pos (by rw [h]; rfl), h]
        rfl
      · rw [if_neg (by
          intro e
          apply h
          apply UInt8.toNat_inj.1
          have : ((worn.data.toList[i]).toNat : Int) = 63 := e
          show _ = 63
          omega)]
        rw [List.count_singleton]
        rw [if_neg (by simpa using h), Nat.add_zero]
  have := key worn.data.toList.length (Nat.le_refl _)
  rw [List.take_length] at this
  unfold Lib.countByte
  rw [this]
  congr 1
def stripQ (worn : ByteArray) : ByteArray := ⟨(worn.data.toList.filter (fun x => x != 63)).toArray⟩
theorem stripQ_size (worn : ByteArray) : (stripQ worn).size ≤ worn.size := by
  unfold stripQ
  have := List.length_filter_le (fun x => x != 63) worn.data.toList
  show (List.toArray _).size ≤ worn.size
  simp at this ⊢
  exact this
theorem stripQ_f (worn : ByteArray) (h : worn.size ≤ 1048576) : strings_ReplaceAll.f worn ⟨#[63]⟩ ⟨#[]⟩ = some (stripQ worn) := by
  unfold strings_ReplaceAll.f
  rw [if_pos ⟨by omega, by decide, by rw [show (⟨#[]⟩ : ByteArray).size = 0 from rfl]; omega⟩]
  congr 1
  unfold stripQ
  congr 1
  exact congrArg List.toArray (replaceAll_one worn.data.toList 63)
theorem okB_len {s : List SG} {m : List MP} (h : okB s m = true) : s.length ≤ 8 := by
  unfold okB headB at h
  simp only [Bool.and_eq_true, decide_eq_true_iff] at h
  omega
theorem okB_pos {s : List SG} {m : List MP} (h : okB s m = true) : 1 ≤ s.length := by
  unfold okB headB at h
  simp only [Bool.and_eq_true, decide_eq_true_iff] at h
  omega
def outI (s : List SG) (m : List MP) (worn : ByteArray) : List ByteArray := sortB ((prodF (s.map (·.f0)) worn worn.size).filter (rightB s m))
def readI (s : List SG) (m : List MP) (worn : ByteArray) : List ByteArray × Int :=
  if okB s m = true then
    if numB s (stripQ worn) = true ∧ worn.size ≤ 16 then
      if Lib.countByte worn.data.toList 63 ≤ 4 then (outI s m worn, if (outI s m worn).length ≤ 500 then 0 else 3) else ([], 3)
    else ([], 5)
  else ([], 1)
end Go.Proofs.YtdhhnkhgmoblhaaDoor.Q
end
section
/- The readings of a worn number: what the program lists is what the reference lists; no condition. -/
namespace Go.Proofs.YtdhhnkhgmoblhaaDoor.Q
open Go.RowKit Go.Proofs.YtdhhnkhgmoblhaaDoorW.PrintWords Go.Proofs.YtdhhnkhgmoblhaaDoor.Pure
set_option linter.unusedVariables false

def treeF (ls : List Int) (worn : ByteArray) : Nat → Nat → ByteArray → List ByteArray
  | _, 0, t => [t]
  | i, n + 1, t => (nextP ls worn i t).flatMap (treeF ls worn (i + 1) n)
theorem take_take_app {α : Type} (a b : List α) (k : Nat) : ((a.take k) ++ b).take k = (a ++ b).take k := by
  by_cases h : a.length ≤ k
  · rw [List.take_of_length_le h]
  · rw [List.take_append_of_le_length (by rw [List.length_take]; omega), List.take_append_of_le_length (by omega), List.take_take, Nat.min_self]
theorem fromF_take (right : ByteArray → Bool) (ls : List Int) (worn : ByteArray) : ∀ (n : Nat) (t : ByteArray) (out : List ByteArray), t.size + n = worn.size → out.length ≤ 501 →
    fromF right ls worn n t out = (out ++ (treeF ls worn t.size n t).filter right).take 501 := by
  intro n
  induction n with
  | zero =>
    intro t out _ ho
    unfold fromF treeF
    by_cases h5 : 500 < out.length
    · rw [if_pos h5, List.take_append_of_le_length (by omega), List.take_of_length_le (by omega)]
    · rw [if_neg h5]
      by_cases hr : right t = true
      · rw [if_pos hr, List.filter_cons, if_pos hr, List.filter_nil, List.take_of_length_le (by rw [List.length_append]; simp only [List.length_singleton]; omega)]
      · rw [if_neg hr, List.filter_cons, if_neg hr, List.filter_nil, List.append_nil, List.take_of_length_le ho]
  | succ n ih =>
    intro t out hn ho
    unfold fromF
    by_cases h5 : 500 < out.length
    · rw [if_pos h5, List.take_append_of_le_length (by omega), List.take_of_length_le (by omega)]
    · rw [if_neg h5]
      by_cases h63 : bt worn (t.size : Int) = 63
      · rw [if_pos h63]
        have key : ∀ (l : List Int) (o : List ByteArray), o.length ≤ 501 → l.foldl (fun o c => fromF right ls worn n (t ++ strOfNums [c]) o) o = (o ++ l.flatMap (fun c => (treeF ls worn (t.size + 1) n (t ++ strOfNums [c])).filter right)).take 501 := by
          intro l
          induction l with
          | nil => intro o h; rw [List.foldl_nil, List.flatMap_nil, List.append_nil, List.take_of_length_le h]
          | cons c l ihl =>
            intro o h
            have hs : (t ++ strOfNums [c]).size = t.size + 1 := by rw [ByteArray.size_append]; rfl
            rw [List.foldl_cons, ihl _ (fromF_len _ _ _ _ _ _ h), ih _ _ (by rw [hs]; omega) h, hs, take_take_app, List.flatMap_cons, List.append_assoc]
        rw [key ls out ho]
        congr 2
        show _ = ((nextP ls worn t.size t).flatMap (treeF ls worn (t.size + 1) n)).filter right
        unfold nextP
        rw [if_pos h63, List.flatMap_map, List.filter_flatMap]
      · rw [if_neg h63]
        have hs : (t ++ worn.extract t.size (t.size + 1)).size = t.size + 1 := by rw [ByteArray.size_append, ByteArray.size_extract]; omega
        rw [ih _ _ (by rw [hs]; omega) ho, hs]
        congr 2
        show _ = ((nextP ls worn t.size t).flatMap (treeF ls worn (t.size + 1) n)).filter right
        unfold nextP
        rw [if_neg h63, List.flatMap_cons, List.flatMap_nil, List.append_nil]
theorem prodF_tree (ls : List Int) (worn : ByteArray) : ∀ (n i : Nat), prodF ls worn (i + n) = (prodF ls worn i).flatMap (treeF ls worn i n) := by
  intro n
  induction n with
  | zero =>
    intro i
    show prodF ls worn i = (prodF ls worn i).flatMap (fun t => [t])
    simp
  | succ n ih =>
    intro i
    rw [show i + (n + 1) = (i + 1) + n by omega, ih (i + 1)]
    show ((prodF ls worn i).flatMap (nextP ls worn i)).flatMap (treeF ls worn (i + 1) n) = _
    rw [List.flatMap_assoc]
    rfl
theorem prodF_all (ls : List Int) (worn : ByteArray) (n : Nat) : prodF ls worn n = treeF ls worn 0 n ⟨#[]⟩ := by
  have := prodF_tree ls worn n 0
  rw [Nat.zero_add] at this
  rw [this]
  show [(⟨#[]⟩ : ByteArray)].flatMap _ = _
  rw [List.flatMap_cons, List.flatMap_nil, List.append_nil]
theorem flat_perm {α β : Type} {f g : α → List β} : ∀ (l : List α), (∀ a ∈ l, (f a).Perm (g a)) → (l.flatMap f).Perm (l.flatMap g) := by
  intro l
  induction l with
  | nil => intro _; exact List.Perm.refl _
  | cons a l ih =>
    intro h
    rw [List.flatMap_cons, List.flatMap_cons]
    exact (h a (List.mem_cons_self ..)).append (ih (fun x hx => h x (List.mem_cons_of_mem _ hx)))
theorem treeF_perm {ls ls' : List Int} (h : ls.Perm ls') (worn : ByteArray) : ∀ (n i : Nat) (t : ByteArray), (treeF ls worn i n t).Perm (treeF ls' worn i n t) := by
  intro n
  induction n with
  | zero => intro i t; exact List.Perm.refl _
  | succ n ih =>
    intro i t
    have h1 : (nextP ls worn i t).Perm (nextP ls' worn i t) := by
      unfold nextP
      split
      · exact h.map _
      · exact List.Perm.refl _
    show ((nextP ls worn i t).flatMap _).Perm ((nextP ls' worn i t).flatMap _)
    exact (h1.flatMap_right _).trans (flat_perm _ (fun a _ => ih (i + 1) a))
theorem data_app (a b : ByteArray) : (a ++ b).data.toList = a.data.toList ++ b.data.toList := by
  rw [ByteArray.data_append]
  simp
theorem treeF_pre (ls : List Int) (worn : ByteArray) : ∀ (n i : Nat) (t x : ByteArray), x ∈ treeF ls worn i n t → ∃ u, x.data.toList = t.data.toList ++ u := by
  intro n
  induction n with
  | zero => intro i t x hx; have := List.mem_singleton.1 hx; subst this; exact ⟨[], by rw [List.append_nil]⟩
  | succ n ih =>
    intro i t x hx
    obtain ⟨b, hb, hx⟩ := List.mem_flatMap.1 (show x ∈ (nextP ls worn i t).flatMap (treeF ls worn (i + 1) n) from hx)
    obtain ⟨u, hu⟩ := ih (i + 1) b x hx
    unfold nextP at hb
    split at hb
    · obtain ⟨c, _, rfl⟩ := List.mem_map.1 hb
      exact ⟨_, by rw [hu, data_app, List.append_assoc]⟩
    · have := List.mem_singleton.1 hb
      subst this
      exact ⟨_, by rw [hu, data_app, List.append_assoc]⟩
def ascB (ls : List Int) : Prop := ls.Pairwise (fun a b => 0 ≤ a ∧ a < b ∧ b < 256)
theorem treeF_asc {ls : List Int} (h : ascB ls) (worn : ByteArray) : ∀ (n i : Nat) (t : ByteArray), (treeF ls worn i n t).Pairwise (fun x y => x.data.toList < y.data.toList) := by
  intro n
  induction n with
  | zero => intro i t; exact List.pairwise_singleton _ _
  | succ n ih =>
    intro i t
    show ((nextP ls worn i t).flatMap (treeF ls worn (i + 1) n)).Pairwise _
    rw [List.pairwise_flatMap]
    refine ⟨fun a _ => ih (i + 1) a, ?_⟩
    unfold nextP
    split
    · rw [List.pairwise_map]
      refine h.imp ?_
      rintro a b ⟨h0, hab, h1⟩ x hx y hy
      obtain ⟨u, hu⟩ := treeF_pre _ _ _ _ _ _ hx
      obtain ⟨v, hv⟩ := treeF_pre _ _ _ _ _ _ hy
      rw [hu, hv, data_app, data_app, List.append_assoc, List.append_assoc]
      apply List.append_left_lt
      show (a.toNat.toUInt8 :: u) < (b.toNat.toUInt8 :: v)
      rw [List.cons_lt_cons_iff]
      left
      rw [UInt8.lt_iff_toNat_lt]
      show (UInt8.ofNat a.toNat).toNat < (UInt8.ofNat b.toNat).toNat
      rw [UInt8.toNat_ofNat_of_lt' (by show a.toNat < 256; omega), UInt8.toNat_ofNat_of_lt' (by show b.toNat < 256; omega)]
      omega
    · exact List.pairwise_singleton _ _
theorem sortB_eq {l l' : List ByteArray} (hp : l'.Perm l) (ha : l.Pairwise (fun x y => x.data.toList < y.data.toList)) : sortB l' = l := by
  have e : ((bytesL l').mergeSort fun x y => decide (x ≤ y)) = bytesL l := by
    refine List.Perm.eq_of_pairwise (le := fun x y => decide (x ≤ y) = true) (fun a b _ _ h1 h2 => ?_) ?_ ?_ ?_
    · exact List.le_antisymm (of_decide_eq_true h1) (of_decide_eq_true h2)
    · refine List.pairwise_mergeSort (le := fun x y => decide (x ≤ y)) (fun a b c h1 h2 => ?_) (fun a b => ?_) _
      · exact decide_eq_true (List.le_trans (of_decide_eq_true h1) (of_decide_eq_true h2))
      · rcases List.le_total a b with h | h
        · simp [h]
        · simp [h]
    · unfold bytesL
      rw [List.pairwise_map]
      exact ha.imp (fun h => decide_eq_true (List.le_of_lt h))
    · exact (List.mergeSort_perm _ _).trans (hp.map _)
  unfold sortB
  rw [e]
  unfold bytesL
  rw [List.map_map]
  conv => rhs; rw [← List.map_id l]
  apply List.map_congr_left
  intro x _
  rfl
theorem valB_mem {s : List SG} {c : Int} (h : valB s c > 0) : c ∈ s.map (·.f0) := by
  unfold valB at h
  cases hf : s.find? (fun x => decide (x.f0 = c)) with
  | none => rw [hf] at h; simp at h
  | some x =>
    have h1 := List.mem_of_find?_eq_some hf
    have h2 := of_decide_eq_true (List.find?_some (p := fun x : SG => decide (x.f0 = c)) hf)
    exact List.mem_map.2 ⟨x, h1, h2⟩
theorem okB_sign {s : List SG} {m : List MP} (h : okB s m = true) (i : Nat) (hi : i < s.length) : (65 ≤ s[i].f0 ∧ s[i].f0 ≤ 90) ∧ 1 ≤ s[i].f1 ∧ (s.take i).any (fun y => decide (y.f0 = s[i].f0)) = false := by
  unfold okB at h
  simp only [Bool.and_eq_true, List.all_eq_true] at h
  have := h.1.2 i (List.mem_range.2 hi)
  unfold sgB letB rngB dupB at this
  rw [rdSG_get _ _ hi] at this
  simp only [Bool.and_eq_true, Bool.not_eq_true', decide_eq_true_iff] at this
  exact ⟨this.1.1.1, this.1.1.2.1, this.2⟩
theorem lettersB_asc (s : List SG) : ascB (lettersB s) := by
  unfold ascB lettersB
  refine List.Pairwise.filter _ ?_
  rw [List.pairwise_map]
  have h1 := List.pairwise_lt_range (n := 26)
  rw [List.pairwise_iff_getElem] at h1 ⊢
  intro i j hi hj hij
  have h2 := h1 i j hi hj hij
  rw [List.length_range] at hj
  rw [List.getElem_range, List.getElem_range] at h2 ⊢
  omega
theorem letters_perm {s : List SG} {m : List MP} (h : okB s m = true) : (s.map (·.f0)).Perm (lettersB s) := by
  rw [List.perm_ext_iff_of_nodup]
  · intro c
    constructor
    · intro hc
      obtain ⟨x, hx, rfl⟩ := List.mem_map.1 hc
      obtain ⟨i, hi, rfl⟩ := List.getElem_of_mem hx
      have h1 := okB_sign h i hi
      unfold lettersB
      rw [List.mem_filter]
      refine ⟨List.mem_map.2 ⟨(s[i].f0 - 65).toNat, List.mem_range.2 (by omega), by omega⟩, decide_eq_true ?_⟩
      unfold valB
      cases hf : s.find? (fun x => decide (x.f0 = s[i].f0)) with
      | none =>
        have := List.find?_eq_none.1 hf s[i] (List.getElem_mem hi)
        simp at this
      | some y =>
        obtain ⟨k, hk, rfl⟩ := List.getElem_of_mem (List.mem_of_find?_eq_some hf)
        have := (okB_sign h k hk).2.1
        show s[k].f1 > 0
        omega
    · intro hc
      unfold lettersB at hc
      rw [List.mem_filter] at hc
      exact valB_mem (of_decide_eq_true hc.2)
  · show (s.map (·.f0)).Pairwise (· ≠ ·)
    rw [List.pairwise_iff_getElem]
    intro i j hi hj hij
    rw [List.length_map] at hi hj
    rw [List.getElem_map, List.getElem_map]
    have h1 := (okB_sign h j hj).2.2
    intro e
    have := List.any_eq_false.1 h1 s[i] (by rw [List.mem_take_iff_getElem]; exact ⟨i, by omega, rfl⟩)
    simp [e] at this
  · show (lettersB s).Pairwise (· ≠ ·)
    exact (lettersB_asc s).imp (fun h => by omega)
theorem places_same {s : List SG} {worn : ByteArray} (h16 : worn.size ≤ 16) : (List.range worn.size).all (placeB s worn) = numB s (stripQ worn) := by
  have h1 : ((List.range worn.size).all (placeB s worn) = true) ↔ ∀ x ∈ worn.data.toList, x ≠ 63 → valB s (x.toNat : Int) ≠ 0 := by
    rw [List.all_eq_true]
    constructor
    · intro h x hx hne
      obtain ⟨i, hi, rfl⟩ := List.getElem_of_mem hx
      have hi2 : i < worn.size := by simpa using hi
      have := h i (List.mem_range.2 hi2)
      unfold placeB at this
      rw [bt_data worn i hi] at this
      simp only [Bool.or_eq_true, decide_eq_true_iff, Bool.not_eq_true', decide_eq_false_iff_not] at this
      rcases this with h2 | h2
      · exfalso
        apply hne
        apply UInt8.toNat_inj.1
        show _ = 63
        omega
      · exact h2
    · intro h i hi
      have hi2 := List.mem_range.1 hi
      have hi3 : i < worn.data.toList.length := by simpa using hi2
      unfold placeB
      rw [bt_data worn i hi3]
      by_cases e : worn.data.toList[i] = 63
      · rw [e]; rfl
      · have := h _ (List.getElem_mem hi3) e
        rw [decide_eq_false this, Bool.not_false, Bool.or_true]
  have h2 : (numB s (stripQ worn) = true) ↔ ∀ x ∈ worn.data.toList, x ≠ 63 → valB s (x.toNat : Int) ≠ 0 := by
    unfold numB
    have hsz := stripQ_size worn
    have hd : (stripQ worn).data.toList = worn.data.toList.filter (fun x => x != 63) := by unfold stripQ; simp
    rw [Bool.and_eq_true, decide_eq_true_iff, List.all_eq_true]
    constructor
    · rintro ⟨h, _⟩ x hx hne
      have hx2 : x ∈ (stripQ worn).data.toList := by rw [hd, List.mem_filter]; exact ⟨hx, by simpa using hne⟩
      obtain ⟨i, hi, rfl⟩ := List.getElem_of_mem hx2
      have hi2 : i < (stripQ worn).size := by simpa using hi
      have := h i (List.mem_range.2 hi2)
      rw [bt_data _ i hi] at this
      simpa using this
    · intro h
      refine ⟨fun i hi => ?_, by omega⟩
      have hi2 := List.mem_range.1 hi
      have hi3 : i < (stripQ worn).data.toList.length := by simpa using hi2
      rw [bt_data _ i hi3]
      have hm : (stripQ worn).data.toList[i] ∈ worn.data.toList.filter (fun x => x != 63) := hd ▸ List.getElem_mem hi3
      rw [List.mem_filter] at hm
      have := h _ hm.1 (by simpa using hm.2)
      simpa using this
  cases ha : (List.range worn.size).all (placeB s worn) <;> cases hb : numB s (stripQ worn)
  · rfl
  · rw [hb] at h2; rw [ha] at h1; exact absurd (h1.2 (h2.1 rfl)) (by simp)
  · rw [hb] at h2; rw [ha] at h1; exact absurd (h2.2 (h1.1 rfl)) (by simp)
  · rfl
theorem readings_same (s : List SG) (m : List MP) (worn : ByteArray) : readS s m worn = (if (readI s m worn).2 = 0 then (readI s m worn).1 else [], (readI s m worn).2) := by
  by_cases ok : okB s m = true
  rotate_left
  · have e : readI s m worn = ([], 1) := by unfold readI; rw [if_neg ok]
    rw [e]
    unfold readS
    rw [if_neg ok]
    rfl
  by_cases h16 : worn.size ≤ 16
  rotate_left
  · have e : readI s m worn = ([], 5) := by unfold readI; rw [if_pos ok, if_neg (fun h => h16 h.2)]
    rw [e]
    unfold readS
    rw [if_pos ok]
    split
    · first | rfl | (rw [if_neg h16]; rfl)
    · rfl
  by_cases hn : numB s (stripQ worn) = true
  rotate_left
  · have e : readI s m worn = ([], 5) := by unfold readI; rw [if_pos ok, if_neg (fun h => hn h.1)]
    rw [e]
    unfold readS
    rw [if_pos ok, places_same h16, if_neg hn]
    rfl
  by_cases h4 : goneTo worn worn.size ≤ 4
  rotate_left
  · have e : readI s m worn = ([], 3) := by unfold readI; rw [if_pos ok, if_pos ⟨hn, h16⟩, count_gone, if_neg h4]
    rw [e]
    unfold readS
    rw [if_pos ok, places_same h16, if_pos hn, if_pos h16, if_neg h4]
    rfl
  obtain ⟨L, hL⟩ : ∃ L, L = (treeF (lettersB s) worn 0 worn.size ⟨#[]⟩).filter (rightB s m) := ⟨_, rfl⟩
  have e1 : fromF (rightB s m) (lettersB s) worn worn.size ⟨#[]⟩ [] = L.take 501 := by
    rw [fromF_take _ _ _ _ _ _ (by show 0 + worn.size = worn.size; omega) (Nat.zero_le _), List.nil_append, hL]
    rfl
  have e2 : outI s m worn = L := by
    unfold outI
    refine sortB_eq ?_ ?_
    · rw [prodF_all, hL]
      exact (treeF_perm (letters_perm ok) worn _ _ _).filter _
    · rw [hL]
      exact (treeF_asc (lettersB_asc s) worn _ _ _).filter _
  have e3 : readI s m worn = (L, if L.length ≤ 500 then 0 else 3) := by unfold readI; rw [if_pos ok, if_pos ⟨hn, h16⟩, count_gone, if_pos h4, e2]
  rw [e3]
  unfold readS
  rw [if_pos ok, places_same h16, if_pos hn, if_pos h16, if_pos h4, e1]
  by_cases h5 : L.length ≤ 500
  · rw [List.take_of_length_le (show L.length ≤ 501 by omega), if_pos h5]
    simp [h5]
  · rw [if_neg (by rw [List.length_take]; omega)]
    simp [h5]
end Go.Proofs.YtdhhnkhgmoblhaaDoor.Q
end
