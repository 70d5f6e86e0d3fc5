/- The law on CutAgain: program and reference count alike how many letters have to be cut, row by row. -/
import Derived.Test.YtnhepjgnddbhjaaDoorQlawsFnExactCutAgain
import Derived.Test.YtnhepjgnddbhjaaDoorQpureStrip
namespace Go.Proofs.YtnhepjgnddbhjaaDoor.Q
open Go.RowKit Go.Proofs.YtnhepjgnddbhjaaDoorW.PrintWords Go.Proofs.YtnhepjgnddbhjaaDoorW.PrintLast Go.Proofs.YtnhepjgnddbhjaaDoorW.PrintMore
open Go.Proofs.YtnhepjgnddbhjaaDoor.Pure
set_option linter.unusedVariables false

def lc (e : Nat → Nat → Bool) : Nat → Nat → Int
  | 0, _ => 0
  | _ + 1, 0 => 0
  | i + 1, k + 1 => mx (mx (lc e i (k + 1)) (lc e (i + 1) k)) (lc e i k + if e i k = true then 1 else 0)
  termination_by i k => (i, k)
theorem lc_zero (e : Nat → Nat → Bool) (i : Nat) : lc e i 0 = 0 := by cases i <;> simp [lc]
theorem lc_step (e : Nat → Nat → Bool) (i k : Nat) : lc e (i + 1) (k + 1) = mx (mx (lc e i (k + 1)) (lc e (i + 1) k)) (lc e i k + if e i k = true then 1 else 0) := by rw [lc]
theorem lc_mono (e : Nat → Nat → Bool) (i k : Nat) : lc e i k ≤ lc e i (k + 1) := by
  cases i with
  | zero => simp [lc]
  | succ i =>
    rw [lc_step]
    unfold mx
    repeat' split
    all_goals omega
theorem lc_range (e : Nat → Nat → Bool) : ∀ i k, 0 ≤ lc e i k ∧ lc e i k ≤ k := by
  intro i
  induction i with
  | zero => intro k; simp [lc]
  | succ i ih =>
    intro k
    induction k with
    | zero => simp [lc]
    | succ k ih2 =>
      rw [lc_step]
      have h1 := ih (k + 1)
      have h2 := ih k
      unfold mx
      repeat' split
      all_goals omega
/-- The row on its way: new up to k, old behind. -/
def mid (g h : Nat → Int) (n k : Nat) : List Int := (List.range (n + 1)).map fun j => if j ≤ k then g j else h j
theorem mid_len (g h : Nat → Int) (n k : Nat) : (mid g h n k).length = n + 1 := by simp [mid]
theorem mid_rd (g h : Nat → Int) (n k j : Nat) (hj : j ≤ n) : rd (mid g h n k) (j : Int) = if j ≤ k then g j else h j := by
  rw [rd_get _ _ (by rw [mid_len]; omega)]
  simp [mid]
theorem mid_set (g h : Nat → Int) (n k : Nat) (hk : k < n) : (mid g h n k).set (k + 1) (g (k + 1)) = mid g h n (k + 1) := by
  refine List.ext_getElem (by simp [mid]) fun j h1 h2 => ?_
  rw [List.getElem_set]
  simp only [mid, List.getElem_map, List.getElem_range]
  by_cases hj : k + 1 = j
  · rw [if_pos hj, ← hj, if_pos (Nat.le_refl _)]
  · rw [if_neg hj]
    by_cases hj2 : j ≤ k
    · rw [if_pos hj2, if_pos (by omega)]
    · rw [if_neg hj2, if_neg (by omega)]
def rowL (e : Nat → Nat → Bool) (n i : Nat) : List Int := (List.range (n + 1)).map (lc e i)
theorem rowL_len (e : Nat → Nat → Bool) (n i : Nat) : (rowL e n i).length = n + 1 := by simp [rowL]
theorem rowL_rd (e : Nat → Nat → Bool) (n i j : Nat) (hj : j ≤ n) : rd (rowL e n i) (j : Int) = lc e i j := by
  rw [rd_get _ _ (by rw [rowL_len]; omega)]
  simp [rowL]
theorem mid_end (e : Nat → Nat → Bool) (h : Nat → Int) (n i : Nat) : mid (lc e i) h n n = rowL e n i := by
  refine List.map_congr_left fun j hj => ?_
  have := List.mem_range.1 hj
  rw [if_pos (by omega)]
theorem mid_old (e : Nat → Nat → Bool) (n i : Nat) : mid (lc e (i + 1)) (lc e i) n 0 = rowL e n i := by
  refine List.map_congr_left fun j hj => ?_
  by_cases h : j ≤ 0
  · rw [if_pos h, show j = 0 by omega, lc_zero, lc_zero]
  · rw [if_neg h]
theorem mid_zero (e : Nat → Nat → Bool) (n i : Nat) : mid (lc e (i + 1)) (fun _ => 0) n 0 = List.replicate (n + 1) 0 := by
  refine List.ext_getElem (by simp [mid]) fun j h1 h2 => ?_
  simp only [mid, List.getElem_map, List.getElem_range, List.getElem_replicate]
  by_cases h : j ≤ 0
  · rw [if_pos h, show j = 0 by omega, lc_zero]
  · rw [if_neg h]
theorem row_zero (e : Nat → Nat → Bool) (n : Nat) : rowL e n 0 = List.replicate (n + 1) 0 := by
  refine List.ext_getElem (by simp [rowL]) fun j h1 h2 => ?_
  simp [rowL, lc]
/-- Two letters alike. -/
def same (a b : ByteArray) (i k : Nat) : Bool := bt a i == bt b k

theorem spec_inner (a b : ByteArray) (hb : b.size ≤ 1000) (i : Nat) (hi : i < a.size) : ∀ d q k, k + d = b.size →
    spec_l04Cut.l1 (q + d + 1) a b (rowL (same a b) b.size i) (i : Int) (mid (lc (same a b) (i + 1)) (fun _ => 0) b.size k) (k : Int) = spec_l04Cut.l0 q a b (rowL (same a b) b.size (i + 1)) (wrap64 ((i : Int) + 1)) := by
  intro d
  induction d with
  | zero =>
    intro q k hk
    obtain rfl : k = b.size := by omega
    rw [spec_l04Cut.l1]
    rw [if_neg (by omega), mid_end]
  | succ d ih =>
    intro q k hk
    have r1 := lc_range (same a b) i k
    have r2 := lc_range (same a b) i (k + 1)
    have r3 := lc_range (same a b) (i + 1) k
    have m1 := lc_mono (same a b) i k
    have ew : wrap64 ((k : Int) + 1) = ((k + 1 : Nat) : Int) := by rw [wrap_id (by omega) (by omega)]; omega
    have ev : wrap64 (lc (same a b) i k + 1) = lc (same a b) i k + 1 := wrap_id (by omega) (by omega)
    have es := lc_step (same a b) i k
    rw [show q + (d + 1) + 1 = (q + d + 1) + 1 by omega]
    rw [spec_l04Cut.l1]
    rw [if_pos (by omega), ew, if_pos (by omega), if_pos (by rw [rowL_len]; omega), if_pos (by omega), if_pos (by rw [mid_len]; omega), rowL_rd _ _ _ _ (by omega), mid_rd _ _ _ _ _ (by omega), if_pos (Nat.le_refl _)]
    have emx : ∀ x y, spec_l00Max.f x y = some (mx x y) := by
      intro x y
      unfold spec_l00Max.f mx
      by_cases h1 : x > y
      · rw [if_pos h1, if_neg (by omega)]
      · rw [if_neg h1]
        by_cases h2 : x < y
        · rw [if_pos h2]
        · rw [if_neg h2, show x = y by omega]
    rw [emx, Option.bind_some, if_pos (by rw [mid_len]; omega), Option.bind_some, if_pos (by omega), if_pos (by omega), Int.toNat_natCast]
    by_cases he : bt a i = bt b k
    · rw [if_pos he, if_pos (by rw [rowL_len]; omega), rowL_rd _ _ _ _ (by omega), ev, emx, Option.bind_some, List.set_set]
      rw [rd_get _ _ (by rw [List.length_set, mid_len]; omega), List.getElem_set_self]
      rw [if_pos (show same a b i k = true by unfold same; rw [he]; simp)] at es
      rw [← es, mid_set _ _ _ _ (by omega)]
      exact ih q (k + 1) (by omega)
    · rw [if_neg he]
      rw [if_neg (show ¬ same a b i k = true by unfold same; simpa using he)] at es
      have e2 : mx (lc (same a b) i (k + 1)) (lc (same a b) (i + 1) k) = lc (same a b) (i + 1) (k + 1) := by
        rw [es]
        unfold mx
        repeat' split
        all_goals omega
      rw [e2, mid_set _ _ _ _ (by omega)]
      exact ih q (k + 1) (by omega)
theorem spec_outer (a b : ByteArray) (hb : b.size ≤ 1000) (ha : a.size ≤ 1000) : ∀ d q i, i + d = a.size →
    spec_l04Cut.l0 (q + d * (b.size + 2) + 1) a b (rowL (same a b) b.size i) (i : Int) = some (wrap64 ((b.size : Int) - lc (same a b) a.size b.size)) := by
  intro d
  induction d with
  | zero =>
    intro q i hi
    obtain rfl : i = a.size := by omega
    rw [spec_l04Cut.l0]
    rw [if_neg (by omega), if_pos (by omega), if_pos (by rw [rowL_len]; omega), rowL_rd _ _ _ _ (Nat.le_refl _)]
  | succ d ih =>
    intro q i hi
    have ew : wrap64 ((b.size : Int) + 1) = ((b.size + 1 : Nat) : Int) := by rw [wrap_id (by omega) (by omega)]; omega
    have ei : wrap64 ((i : Int) + 1) = ((i + 1 : Nat) : Int) := by rw [wrap_id (by omega) (by omega)]; omega
    rw [show q + (d + 1) * (b.size + 2) + 1 = ((q + d * (b.size + 2) + 1) + b.size + 1) + 1 by rw [Nat.succ_mul]; omega]
    rw [spec_l04Cut.l0]
    rw [if_pos (by omega), ew, if_pos (by omega), if_pos (by omega), Int.toNat_natCast, ← mid_zero (same a b) b.size i]
    refine (spec_inner a b hb i (by omega) b.size _ 0 (by omega)).trans ?_
    rw [ei]
    exact ih q (i + 1) (by omega)
theorem impl_inner (a b : ByteArray) (hb : b.size ≤ 1000) (i : Nat) (hi : i < a.size) : ∀ d q k, k + d = b.size →
    impl_cutAgain.l1 (q + d + 1) a b (rowL (same a b) b.size i) (i : Int) (mid (lc (same a b) (i + 1)) (lc (same a b) i) b.size k) (a.size : Int) (i : Int) (b.size : Int) (k : Int) = impl_cutAgain.l0 q a b (rowL (same a b) b.size (i + 1)) (a.size : Int) (wrap64 ((i : Int) + 1)) := by
  intro d
  induction d with
  | zero =>
    intro q k hk
    obtain rfl : k = b.size := by omega
    rw [impl_cutAgain.l1]
    rw [if_neg (by omega), mid_end]
  | succ d ih =>
    intro q k hk
    have r1 := lc_range (same a b) i k
    have ew : wrap64 ((k : Int) + 1) = ((k + 1 : Nat) : Int) := by rw [wrap_id (by omega) (by omega)]; omega
    have es := lc_step (same a b) i k
    have eb : ∀ p : Bool, impl_bit.f p = some (if p = true then 1 else 0) := by
      intro p
      cases p <;> rfl
    have ev : wrap64 (lc (same a b) i k + (if same a b i k = true then 1 else 0)) = lc (same a b) i k + (if same a b i k = true then 1 else 0) := wrap_id (by split <;> omega) (by split <;> omega)
    rw [show q + (d + 1) + 1 = (q + d + 1) + 1 by omega]
    rw [impl_cutAgain.l1]
    rw [if_pos (by omega), ew, if_pos (by omega), if_pos (by rw [rowL_len]; omega), if_pos (by omega), if_pos (by rw [mid_len]; omega), if_pos (by rw [rowL_len]; omega), if_pos (by omega), if_pos (by omega), if_pos (by omega), eb, Option.bind_some,
      if_pos (by rw [mid_len]; omega), rowL_rd _ _ _ _ (by omega), mid_rd _ _ _ _ _ (by omega), if_pos (Nat.le_refl _), rowL_rd _ _ _ _ (by omega), Int.toNat_natCast]
    rw [show (bt a i == bt b k) = same a b i k from rfl, ev, ← es, mid_set _ _ _ _ (by omega)]
    exact ih q (k + 1) (by omega)
theorem impl_outer (a b : ByteArray) (hb : b.size ≤ 1000) (ha : a.size ≤ 1000) : ∀ d q i, i + d = a.size →
    impl_cutAgain.l0 (q + d * (b.size + 2) + 1) a b (rowL (same a b) b.size i) (a.size : Int) (i : Int) = some (wrap64 ((b.size : Int) - lc (same a b) a.size b.size)) := by
  intro d
  induction d with
  | zero =>
    intro q i hi
    obtain rfl : i = a.size := by omega
    rw [impl_cutAgain.l0]
    rw [if_neg (by omega), if_pos (by omega), if_pos (by rw [rowL_len]; omega), rowL_rd _ _ _ _ (Nat.le_refl _)]
  | succ d ih =>
    intro q i hi
    have ei : wrap64 ((i : Int) + 1) = ((i + 1 : Nat) : Int) := by rw [wrap_id (by omega) (by omega)]; omega
    rw [show q + (d + 1) * (b.size + 2) + 1 = ((q + d * (b.size + 2) + 1) + b.size + 1) + 1 by rw [Nat.succ_mul]; omega]
    rw [impl_cutAgain.l0]
    rw [if_pos (by omega)]
    unfold slices_Clone_int64.f
    rw [if_pos (by rw [rowL_len]; omega), Option.bind_some]
    have e0 := impl_inner a b hb i (by omega) b.size (q + d * (b.size + 2) + 1) 0 (by omega)
    rw [mid_old] at e0
    refine e0.trans ?_
    rw [ei]
    exact ih q (i + 1) (by omega)
/-- The reference's letters of a text are the text without its blanks. -/
theorem strip_nums (a : ByteArray) : strOfNums ((bytesOf a).filter fun x => x != 32) = strip a := by
  rw [← bytesOf_strip]
  unfold strOfNums bytesOf
  have : ((strip a).data.toList.map fun b => ((b.toNat : Nat) : Int)).map (fun n => UInt8.ofNat n.toNat) = (strip a).data.toList := by
    rw [List.map_map]
    conv => rhs; rw [← List.map_id (strip a).data.toList]
    refine List.map_congr_left fun x _ => ?_
    simp
  rw [this]
theorem spec_l04Letters.val (a : ByteArray) (ha : a.size ≤ 1000) : spec_l04Letters.f (a.size + 1) a = some (strip a) := by
  have key : ∀ d i k, i + d = a.size → d < k → spec_l04Letters.l0 k a (((bytesOf a).take i).filter fun x => x != 32) (i : Int) = some (strip a) := by
    intro d
    induction d with
    | zero =>
      intro i k hi hk
      obtain ⟨k, rfl⟩ : ∃ m, k = m + 1 := ⟨k - 1, by omega⟩
      obtain rfl : i = a.size := by omega
      simp only [spec_l04Letters.l0]
      rw [if_neg (by omega), List.take_of_length_le (by rw [bytesOf_length]; omega), strip_nums]
    | succ d ih =>
      intro i k hi hk
      obtain ⟨k, rfl⟩ : ∃ m, k = m + 1 := ⟨k - 1, by omega⟩
      have hs : (bytesOf a).take (i + 1) = (bytesOf a).take i ++ [bt a i] := by
        rw [List.take_succ_eq_append_getElem (by rw [bytesOf_length]; omega), bytesOf_at a i (by omega)]
      have ei : wrap64 ((i : Int) + 1) = ((i + 1 : Nat) : Int) := by rw [wrap_id (by omega) (by omega)]; omega
      have ih2 := ih (i + 1) k (by omega) (by omega)
      rw [hs, List.filter_append] at ih2
      have hl : (((bytesOf a).take i).filter fun x => x != 32).length ≤ a.size := by
        refine Nat.le_trans (List.length_filter_le _ _) ?_
        rw [List.length_take, bytesOf_length]
        omega
      simp only [spec_l04Letters.l0]
      rw [if_pos (by omega), if_pos (by omega), ei]
      by_cases h : bt a i = 32
      · rw [if_pos h]
        rw [List.filter_cons_of_neg (by simp [h]), List.filter_nil, List.append_nil] at ih2
        exact ih2
      · rw [if_neg h, if_pos (by omega)]
        rw [List.filter_cons_of_pos (by simpa using h), List.filter_nil] at ih2
        exact ih2
  have := key a.size 0 (a.size + 1) (by omega) (by omega)
  unfold spec_l04Letters.f
  simpa using this
theorem cut_rounds {m n : Nat} (hm : m ≤ 60) (hn : n ≤ 60) : m * (n + 2) + 1 ≤ 10000 := by
  have := Nat.mul_le_mul hm (Nat.add_le_add_right hn 2)
  omega
theorem spec_l04Cut.val (a b : ByteArray) (ha : a.size ≤ 60) (hb : b.size ≤ 60) : spec_l04Cut.f 10000 a b = some (wrap64 (((strip b).size : Int) - lc (same (strip a) (strip b)) (strip a).size (strip b).size)) := by
  have sa := strip_size a
  have sb := strip_size b
  have hr := cut_rounds (m := (strip a).size) (n := (strip b).size) (by omega) (by omega)
  have ew : wrap64 (((strip b).size : Int) + 1) = (((strip b).size + 1 : Nat) : Int) := by rw [wrap_id (by omega) (by omega)]; omega
  unfold spec_l04Cut.f
  rw [at_rounds (spec_l04Letters.mono a) (by omega) (spec_l04Letters.val a (by omega)), Option.bind_some, at_rounds (spec_l04Letters.mono b) (by omega) (spec_l04Letters.val b (by omega)), Option.bind_some, ew, if_pos (by omega), if_pos (by omega), Int.toNat_natCast, ← row_zero (same (strip a) (strip b))]
  have := spec_outer (strip a) (strip b) (by omega) (by omega) (strip a).size (10000 - ((strip a).size * ((strip b).size + 2) + 1)) 0 (by omega)
  rw [show 10000 - ((strip a).size * ((strip b).size + 2) + 1) + (strip a).size * ((strip b).size + 2) + 1 = 10000 by omega] at this
  exact this
theorem impl_cutAgain.val (a b : ByteArray) (ha : a.size ≤ 60) (hb : b.size ≤ 60) : impl_cutAgain.f 10000 a b = some (wrap64 (((strip b).size : Int) - lc (same (strip a) (strip b)) (strip a).size (strip b).size)) := by
  have sa := strip_size a
  have sb := strip_size b
  have hr := cut_rounds (m := (strip a).size) (n := (strip b).size) (by omega) (by omega)
  have ew : wrap64 (((strip b).size : Int) + 1) = (((strip b).size + 1 : Nat) : Int) := by rw [wrap_id (by omega) (by omega)]; omega
  unfold impl_cutAgain.f
  rw [impl_lettersOf.val a (by omega), Option.bind_some, impl_lettersOf.val b (by omega), Option.bind_some, ew, if_pos (by omega), if_pos (by omega), Int.toNat_natCast, ← row_zero (same (strip a) (strip b))]
  have := impl_outer (strip a) (strip b) (by omega) (by omega) (strip a).size (10000 - ((strip a).size * ((strip b).size + 2) + 1)) 0 (by omega)
  rw [show 10000 - ((strip a).size * ((strip b).size + 2) + 1) + (strip a).size * ((strip b).size + 2) + 1 = 10000 by omega] at this
  exact this
theorem laws_FnExactCutAgain.holds (a b : ByteArray) (W : World) (hG : Glob W) (ha : a.size ≤ 9223372036854775807) (hb : b.size ≤ 9223372036854775807) :
    Calls Tryd.prog 3 #[.string a, .string b] W fun e w' => e = .returned (.bool true) ∧ Below W.heap.size W w' := by
  obtain ⟨K, hK⟩ : ∃ K : Nat, K = a.size + b.size + 10000 := ⟨_, rfl⟩
  refine laws_FnExactCutAgain.calls K a b true W hG ?_
  unfold laws_FnExactCutAgain.f
  by_cases h1 : (a.size : Int) > 1048576
  · rw [if_pos h1]
  rw [if_neg h1]
  by_cases h2 : (b.size : Int) > 1048576
  · rw [if_pos h2]
  rw [if_neg h2]
  unfold spec_CutAgain.f impl_CutAgain.f
  rw [at_rounds (spec_l01Text.mono a) (by omega) (spec_l01Text.val a (by omega)), at_rounds (impl_ValidText.mono a) (by omega) (impl_ValidText.val a (by omega)),
    at_rounds (spec_l01Text.mono b) (by omega) (spec_l01Text.val b (by omega)), at_rounds (impl_ValidText.mono b) (by omega) (impl_ValidText.val b (by omega))]
  simp only [Option.bind_some]
  cases ta : textB a
  · simp
  cases tb : textB b
  · simp
  rw [at_rounds (spec_l04Cut.mono a b) (show 10000 ≤ K by omega) (spec_l04Cut.val a b (text_small ta) (text_small tb)), at_rounds (impl_cutAgain.mono a b) (show 10000 ≤ K by omega) (impl_cutAgain.val a b (text_small ta) (text_small tb))]
  simp
end Go.Proofs.YtnhepjgnddbhjaaDoor.Q
