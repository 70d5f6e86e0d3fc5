/- The parts of a number, and whether a text is a number: program and reference agree; no condition. -/
import Derived.Test.YtcaidohboacokaaQspecl03Asked
import Derived.Test.YtcaidohboacokaaQspecl03Parts
import Derived.Test.YtcaidohboacokaaQhandValid
import Derived.Test.YtcaidohboacokaaQimplnumberCode
import Derived.Test.YtcaidohboacokaaQimplSystemsplit
namespace Go.Proofs.Ytcaidohboacokaa.Q
open Go.RowKit Go.Proofs.YtcaidohboacokaaW.PrintWords Go.Proofs.Ytcaidohboacokaa.Pure
set_option linter.unusedVariables false

abbrev PT := S83
theorem rdPT_get (xs : List PT) (k : Nat) (h : k < xs.length) : rd_T83 xs (k : Int) = xs[k] := by
  unfold rd_T83
  simp [List.getD_eq_getElem?_getD, h]
def fitB (s : List SG) : Prop := (s.all (fun x => decide (-32768 ≤ x.f1) && decide (x.f1 ≤ 32767))) = true
def numB (s : List SG) (t : ByteArray) : Bool := (List.range t.size).all (fun i => decide (valB s (bt t (i : Nat)) ≠ 0)) && decide (t.size ≤ 16)
def codeB (s : List SG) (m : List MP) (t : ByteArray) : Int := if okB s m = true then (if numB s t = true then 0 else 5) else 1
def pairB (m : List MP) (a b : Int) : Bool := m.any (fun p => decide (p.f0 = a) && decide (p.f1 = b))

theorem spec_l03Text.val (s : List SG) (m : List MP) (t : ByteArray) (hs : s.length ≤ 1048576) (hf : fitB s) (ht : t.size ≤ 1048576) (k : Nat) (hk : 2097156 ≤ k) : spec_l03Text.f k s m t = some (numB s t) := by
  unfold spec_l03Text.f numB
  have := scan_allM (n := t.size) (M := 1048577) (l := fun k i => spec_l03Text.l0 k t i s m) (p := fun i => decide (valB s (bt t (i : Nat)) ≠ 0)) (b := decide (t.size ≤ 16)) (fun k i hi hM => ?_) (fun k hM => ?_) k (by omega)
  · exact this
  · simp only [spec_l03Text.l0]
    rw [if_pos (by omega), if_pos (by omega), spec_l03Value.val s m _ hs (fit16_of hf) k (by omega), Option.bind_some, wrap_succ hi (by omega)]
    by_cases h : valB s (bt t (i : Nat)) = 0 <;> simp [h]
  · simp only [spec_l03Text.l0]
    rw [if_neg (by omega)]
    congr 1
    rw [decide_eq_decide]
    omega
theorem impl_System_isNumber.val (s : List SG) (m : List MP) (t : ByteArray) (hs : s.length ≤ 1048576) (hf : fitB s) (ht : t.size ≤ 1048576) (k : Nat) (hk : 2097156 ≤ k) : impl_System_isNumber.f k s m t = some (numB s t) := by
  unfold impl_System_isNumber.f numB
  have := scan_allM (n := t.size) (M := 1048577) (l := fun k i => impl_System_isNumber.l0 k t (t.size : Int) i s m) (p := fun i => decide (valB s (bt t (i : Nat)) ≠ 0)) (b := decide (t.size ≤ 16)) (fun k i hi hM => ?_) (fun k hM => ?_) k (by omega)
  · exact this
  · simp only [impl_System_isNumber.l0]
    rw [if_pos (by omega), if_pos (by omega), if_pos (by omega), impl_System_value.val s m _ hs (fit16_of hf) k (by omega), Option.bind_some, wrap_succ hi (by omega)]
    by_cases h : valB s (bt t (i : Nat)) = 0 <;> simp [h]
  · simp only [impl_System_isNumber.l0]
    rw [if_neg (by omega)]
    congr 1
    rw [decide_eq_decide]
    omega
theorem spec_l03Asked.val (s : List SG) (m : List MP) (t : ByteArray) (hs : s.length ≤ 1048576) (hm : m.length ≤ 1048576) (hf : fitB s) (ht : t.size ≤ 1048576) (k : Nat) (hk : 2097156 ≤ k) : spec_l03Asked.f k s m t = some (codeB s m t) := by
  unfold spec_l03Asked.f spec_l03Ok.f codeB
  rw [if_pos ⟨hs, hm, hf⟩, Option.bind_some]
  by_cases h : okB s m = true
  · rw [if_pos h, if_pos h, spec_l03Text.val s m t hs hf ht k hk, Option.bind_some]
    by_cases h2 : numB s t = true
    · rw [if_pos h2, if_pos h2]
    · rw [if_neg h2, if_neg h2]
  · rw [if_neg h, if_neg h]
theorem impl_numberCode.val (s : List SG) (m : List MP) (t : ByteArray) (hs : s.length ≤ 1048576) (hm : m.length ≤ 1048576) (hf : fitB s) (ht : t.size ≤ 1048576) (k : Nat) (hk : 2097156 ≤ k) : impl_numberCode.f k s m t = some (codeB s m t) := by
  unfold impl_numberCode.f impl_ValidSystem.f codeB
  rw [if_pos ⟨hs, hm, hf⟩, Option.bind_some]
  by_cases h : okB s m = true
  · rw [if_pos h, if_pos h, impl_System_isNumber.val s m t hs hf ht k hk, Option.bind_some]
    unfold impl_unless.f
    by_cases h2 : numB s t = true
    · rw [if_pos h2, if_pos h2]; rfl
    · rw [if_neg h2, if_neg h2]; rfl
  · rw [if_neg h, if_neg h]

theorem pairB_cons (p : MP) (m : List MP) (a b : Int) : pairB (p :: m) a b = ((decide (p.f0 = a) && decide (p.f1 = b)) || pairB m a b) := by simp [pairB]
theorem spec_l03Pair.val (s : List SG) (m : List MP) (a b : Int) (hm : m.length ≤ 1048576) (k : Nat) (hk : m.length < k) : spec_l03Pair.f k s m a b = some (pairB m a b) := by
  unfold spec_l03Pair.f
  have key : ∀ d i k, i + d = m.length → d < k → spec_l03Pair.l0 k a b (i : Nat) s m = some (pairB (m.drop i) a b) := by
    intro d
    induction d with
    | zero =>
      intro i k hi hk
      obtain ⟨k, rfl⟩ : ∃ j, k = j + 1 := ⟨k - 1, by omega⟩
      simp only [spec_l03Pair.l0]
      rw [if_neg (by omega), List.drop_of_length_le (by omega)]
      rfl
    | succ d ih =>
      intro i k hi hk
      obtain ⟨k, rfl⟩ : ∃ j, k = j + 1 := ⟨k - 1, by omega⟩
      have hlt : i < m.length := by omega
      simp only [spec_l03Pair.l0]
      rw [if_pos (by omega), if_pos (by omega), rdA2_get _ _ hlt, List.drop_eq_getElem_cons hlt, pairB_cons, wrap_succ hlt (by omega), ih (i + 1) k (by omega) (by omega)]
      by_cases h1 : m[i].f0 = a
      · by_cases h2 : m[i].f1 = b <;> simp [h1, h2]
      · simp [h1]
  exact key m.length 0 k (by omega) hk
theorem slices_Index_uint8.val (m : List MP) (a b : Int) (hm : m.length ≤ 1048576) (k : Nat) (hk : m.length < k) : ∃ r, slices_Index_uint8.f k m a b = some r ∧ decide (r ≥ 0) = pairB m a b := by
  unfold slices_Index_uint8.f
  have key : ∀ d i k, i + d = m.length → d < k → ∃ r, slices_Index_uint8.l0 k m (m.length : Int) (i : Nat) a b = some r ∧ decide (r ≥ 0) = pairB (m.drop i) a b := by
    intro d
    induction d with
    | zero =>
      intro i k hi hk
      obtain ⟨k, rfl⟩ : ∃ j, k = j + 1 := ⟨k - 1, by omega⟩
      simp only [slices_Index_uint8.l0]
      rw [if_neg (by omega), List.drop_of_length_le (by omega)]
      exact ⟨-1, rfl, rfl⟩
    | succ d ih =>
      intro i k hi hk
      obtain ⟨k, rfl⟩ : ∃ j, k = j + 1 := ⟨k - 1, by omega⟩
      have hlt : i < m.length := by omega
      simp only [slices_Index_uint8.l0]
      rw [if_pos (by omega), if_pos (by omega), if_pos (by omega), rdA2_get _ _ hlt, List.drop_eq_getElem_cons hlt, pairB_cons, wrap_succ hlt (by omega)]
      by_cases h : (a == m[i].f0 && (b == m[i].f1)) = true
      · rw [if_pos h]
        simp only [Bool.and_eq_true, beq_iff_eq] at h
        exact ⟨i, rfl, by rw [decide_eq_true h.1.symm, decide_eq_true h.2.symm]; simp⟩
      · rw [if_neg h]
        obtain ⟨r, h1, h2⟩ := ih (i + 1) k (by omega) (by omega)
        refine ⟨r, h1, ?_⟩
        rw [h2]
        have : (decide (m[i].f0 = a) && decide (m[i].f1 = b)) = false := by
          rw [Bool.eq_false_iff]
          intro hc
          simp only [Bool.and_eq_true, decide_eq_true_iff] at hc
          exact h (by simp [hc.1, hc.2])
        rw [this, Bool.false_or]
  exact key m.length 0 k (by omega) hk
theorem impl_System_isMinus.val (s : List SG) (m : List MP) (a b : Int) (hm : m.length ≤ 1048576) (k : Nat) (hk : m.length < k) : impl_System_isMinus.f k s m a b = some (pairB m a b) := by
  unfold impl_System_isMinus.f slices_Contains_uint8.f
  obtain ⟨r, h1, h2⟩ := slices_Index_uint8.val m a b hm k hk
  rw [h1, Option.bind_some, Option.bind_some, h2]

theorem wrap_n1 (i : Nat) (h : i < 1048576) : wrap64 ((i : Int) + 1) = ((i + 1 : Nat) : Int) := by rw [wrap_id (by omega) (by omega)]; omega
theorem wrap_n2 (i : Nat) (h : i < 1048576) : wrap64 ((i : Int) + 2) = ((i + 2 : Nat) : Int) := by rw [wrap_id (by omega) (by omega)]; omega
theorem wrap_n3 (i : Nat) (h : i < 1048576) : wrap64 (((i + 1 : Nat) : Int) + 1) = ((i + 2 : Nat) : Int) := by rw [wrap_id (by omega) (by omega)]; omega
/-- The parts of a text from a place on. -/
def partsFrom (s : List SG) (m : List MP) (t : ByteArray) : Nat → Nat → List PT
  | 0, _ => []
  | d + 1, i => if i < t.size then (if i + 1 < t.size ∧ pairB m (bt t (i : Nat)) (bt t ((i + 1 : Nat) : Int)) = true then ⟨t.extract i (i + 2), valB s (bt t ((i + 1 : Nat) : Int)) - valB s (bt t (i : Nat))⟩ :: partsFrom s m t d (i + 2)
    else ⟨t.extract i (i + 1), valB s (bt t (i : Nat))⟩ :: partsFrom s m t d (i + 1)) else []
theorem partsFrom_len (s : List SG) (m : List MP) (t : ByteArray) : ∀ d i, (partsFrom s m t d i).length ≤ d := by
  intro d
  induction d with
  | zero => intro i; simp [partsFrom]
  | succ d ih =>
    intro i
    have h1 := ih (i + 1)
    have h2 := ih (i + 2)
    simp only [partsFrom]
    split
    · split <;> simp <;> omega
    · simp
def partsT (s : List SG) (m : List MP) (t : ByteArray) : List PT := partsFrom s m t t.size 0
theorem impl_System_split.val (M : Nat) (s : List SG) (m : List MP) (t : ByteArray) (hs : s.length ≤ 1048576) (hm : m.length ≤ 1048576) (hsM : s.length < M) (hmM : m.length < M) (hf : fitB s) (ht : t.size ≤ 16) (k : Nat) (hk : M + 64 ≤ k) : impl_System_split.f k s m t = some (partsT s m t) := by
  unfold impl_System_split.f partsT
  have key : ∀ d i k (acc : List PT), t.size ≤ i + d → acc.length + d ≤ 32 → d ≤ 16 → M + 2 * d + 1 ≤ k → impl_System_split.l0 k t acc (i : Nat) s m = some (acc ++ partsFrom s m t d i) := by
    intro d
    induction d with
    | zero =>
      intro i k acc hi ha hd hk
      obtain ⟨k, rfl⟩ : ∃ j, k = j + 1 := ⟨k - 1, by omega⟩
      simp only [impl_System_split.l0, partsFrom]
      rw [if_neg (by omega), List.append_nil]
    | succ d ih =>
      intro i k acc hi ha hd hk
      obtain ⟨k, rfl⟩ : ∃ j, k = j + 1 := ⟨k - 1, by omega⟩
      obtain ⟨k, rfl⟩ : ∃ j, k = j + 1 := ⟨k - 1, by omega⟩
      simp only [partsFrom]
      by_cases hlt : i < t.size
      · have b1 := valB_le (fit16_of hf) (bt t (i : Nat))
        have b2 := valB_le (fit16_of hf) (bt t ((i + 1 : Nat) : Int))
        have V1 := impl_System_value.val s m (bt t (i : Nat)) hs (fit16_of hf) k (by omega)
        have V2 := impl_System_value.val s m (bt t ((i + 1 : Nat) : Int)) hs (fit16_of hf) k (by omega)
        have VP := impl_System_isMinus.val s m (bt t (i : Nat)) (bt t ((i + 1 : Nat) : Int)) hm (k + 1) (by omega)
        have J1 := ih (i + 1) k (acc ++ [⟨t.extract i (i + 1), valB s (bt t (i : Nat))⟩]) (by omega) (by simp; omega) (by omega) (by omega)
        have J2 := fun (h : i + 1 < t.size) => ih (i + 2) k (acc ++ [⟨t.extract i (i + 2), valB s (bt t ((i + 1 : Nat) : Int)) - valB s (bt t (i : Nat))⟩]) (by omega) (by simp; omega) (by omega) (by omega)
        have c0 : (0 : Int) ≤ (i : Int) := by omega
        have c1 : (i : Int) ≤ ((i + 1 : Nat) : Int) := by omega
        have c2 : ((i + 1 : Nat) : Int) ≤ (t.size : Int) := by omega
        have c3 : (i : Int) < (t.size : Int) := by omega
        have c4 : acc.length < 5864062014805 := by omega
        have c5 : (0 : Int) ≤ ((i + 1 : Nat) : Int) := by omega
        have c6 : (i : Int) ≤ ((i + 2 : Nat) : Int) := by omega
        have c7 : ¬ i + 1 < t.size → ¬ ((i + 1 : Nat) : Int) < (t.size : Int) := by omega
        have c8 : i + 1 < t.size → ((i + 1 : Nat) : Int) < (t.size : Int) ∧ ((i + 2 : Nat) : Int) ≤ (t.size : Int) := by omega
        have hi16 : i < 1048576 := by omega
        have W := wrap_id (n := valB s (bt t ((i + 1 : Nat) : Int)) - valB s (bt t (i : Nat))) (by omega) (by omega)
        have w1 := wrap_n1 i hi16
        have w2 := wrap_n2 i hi16
        have w3 := wrap_n3 i hi16
        have J0 : impl_System_split.j1 (k + 1) t acc (i : Nat) false s m = some (acc ++ ⟨t.extract i (i + 1), valB s (bt t (i : Nat))⟩ :: partsFrom s m t d (i + 1)) := by
          simp only [impl_System_split.j1]
          rw [if_neg Bool.false_ne_true, w1, if_pos c0, if_pos c1, if_pos c2, if_pos c3, V1, Option.bind_some, if_pos c4, Int.toNat_natCast, Int.toNat_natCast, J1, List.append_assoc]
          rfl
        rw [if_pos hlt]
        simp only [impl_System_split.l0]
        rw [if_pos c3, w1]
        by_cases h1 : i + 1 < t.size
        · obtain ⟨c7, c8⟩ := c8 h1
          rw [if_pos c7, if_pos c0, if_pos c5, VP, Option.bind_some]
          cases hp : pairB m (bt t (i : Nat)) (bt t ((i + 1 : Nat) : Int)) with
          | false => rw [J0, if_neg (fun h => Bool.false_ne_true h.2)]
          | true =>
            rw [if_pos ⟨h1, rfl⟩]
            simp only [impl_System_split.j1]
            rw [if_pos trivial, w1, w2, w3, if_pos c0, if_pos c6, if_pos c8, if_pos c5, if_pos c7, V2, Option.bind_some, if_pos c3, V1, Option.bind_some, if_pos c4, Int.toNat_natCast, Int.toNat_natCast, W, J2 h1, List.append_assoc]
            rfl
        · rw [if_neg (c7 h1), if_neg (show ¬ (i + 1 < t.size ∧ pairB m (bt t (i : Nat)) (bt t ((i + 1 : Nat) : Int)) = true) from fun h => h1 h.1), J0]
      · rw [if_neg hlt]
        simp only [impl_System_split.l0]
        rw [if_neg (by omega), List.append_nil]
  have := key t.size 0 k [] (by omega) (by simp; omega) (by omega) (by omega)
  simpa using this
theorem spec_l03Parts.val (M : Nat) (s : List SG) (m : List MP) (t : ByteArray) (hs : s.length ≤ 1048576) (hm : m.length ≤ 1048576) (hsM : s.length < M) (hmM : m.length < M) (hf : fitB s) (ht : t.size ≤ 16) (k : Nat) (hk : M + 64 ≤ k) : spec_l03Parts.f k s m t = some ((partsT s m t).map (·.f1)) := by
  unfold spec_l03Parts.f partsT
  have key : ∀ d i k (acc : List Int), t.size ≤ i + d → acc.length + d ≤ 32 → d ≤ 16 → M + 2 * d + 1 ≤ k → spec_l03Parts.l0 k t acc (i : Nat) s m = some (acc ++ (partsFrom s m t d i).map (·.f1)) := by
    intro d
    induction d with
    | zero =>
      intro i k acc hi ha hd hk
      obtain ⟨k, rfl⟩ : ∃ j, k = j + 1 := ⟨k - 1, by omega⟩
      simp only [spec_l03Parts.l0, partsFrom]
      rw [if_neg (by omega), List.map_nil, List.append_nil]
    | succ d ih =>
      intro i k acc hi ha hd hk
      obtain ⟨k, rfl⟩ : ∃ j, k = j + 1 := ⟨k - 1, by omega⟩
      simp only [partsFrom]
      by_cases hlt : i < t.size
      · have b1 := valB_le (fit16_of hf) (bt t (i : Nat))
        have b2 := valB_le (fit16_of hf) (bt t ((i + 1 : Nat) : Int))
        have V1 := spec_l03Value.val s m (bt t (i : Nat)) hs (fit16_of hf) k (by omega)
        have V2 := spec_l03Value.val s m (bt t ((i + 1 : Nat) : Int)) hs (fit16_of hf) k (by omega)
        have VP := spec_l03Pair.val s m (bt t (i : Nat)) (bt t ((i + 1 : Nat) : Int)) hm k (by omega)
        have c0 : (0 : Int) ≤ (i : Int) := by omega
        have c3 : (i : Int) < (t.size : Int) := by omega
        have c4 : acc.length < 17592186044416 := by omega
        have c5 : (0 : Int) ≤ ((i + 1 : Nat) : Int) := by omega
        have J0 := ih (i + 1) k (acc ++ [valB s (bt t (i : Nat))]) (by omega) (by simp; omega) (by omega) (by omega)
        have J1 := ih (i + 2) k (acc ++ [valB s (bt t ((i + 1 : Nat) : Int)) - valB s (bt t (i : Nat))]) (by omega) (by simp; omega) (by omega) (by omega)
        have c7 : ¬ i + 1 < t.size → ¬ ((i + 1 : Nat) : Int) < (t.size : Int) := by omega
        have c8 : i + 1 < t.size → ((i + 1 : Nat) : Int) < (t.size : Int) ∧ ((i + 2 : Nat) : Int) ≤ (t.size : Int) := by omega
        have hi16 : i < 1048576 := by omega
        have W := wrap_id (n := valB s (bt t ((i + 1 : Nat) : Int)) - valB s (bt t (i : Nat))) (by omega) (by omega)
        have w1 := wrap_n1 i hi16
        have w3 := wrap_n3 i hi16
        rw [if_pos hlt]
        simp only [spec_l03Parts.l0]
        rw [if_pos c3, if_pos c0, V1, Option.bind_some, w1, w3]
        by_cases h1 : i + 1 < t.size
        · obtain ⟨c7, c8⟩ := c8 h1
          rw [if_pos c7, if_pos c5, VP, Option.bind_some]
          cases hp : pairB m (bt t (i : Nat)) (bt t ((i + 1 : Nat) : Int)) with
          | false =>
            rw [if_neg Bool.false_ne_true, if_pos c4, J0, if_neg (fun h => Bool.false_ne_true h.2)]
            simp
          | true =>
            rw [if_pos rfl, V2, Option.bind_some, if_pos c4, if_pos ⟨h1, rfl⟩, W, J1]
            simp
        · rw [if_neg (c7 h1), if_neg (show ¬ (i + 1 < t.size ∧ pairB m (bt t (i : Nat)) (bt t ((i + 1 : Nat) : Int)) = true) from fun h => h1 h.1), if_pos c4, J0]
          simp
      · rw [if_neg hlt]
        simp only [spec_l03Parts.l0]
        rw [if_neg (by omega), List.map_nil, List.append_nil]
  have := key t.size 0 k [] (by omega) (by simp; omega) (by omega) (by omega)
  simpa using this
theorem partsT_len (s : List SG) (m : List MP) (t : ByteArray) : (partsT s m t).length ≤ t.size := partsFrom_len s m t t.size 0
theorem numB_size {s : List SG} {t : ByteArray} (h : numB s t = true) : t.size ≤ 16 := by
  unfold numB at h
  simp only [Bool.and_eq_true, decide_eq_true_iff] at h
  exact h.2
theorem codeB_ok {s : List SG} {m : List MP} {t : ByteArray} (h : codeB s m t = 0) : t.size ≤ 16 := by
  unfold codeB at h
  split at h
  · split at h
    · rename_i h1 h2
      exact numB_size h2
    · cases h
  · cases h
end Go.Proofs.Ytcaidohboacokaa.Q
