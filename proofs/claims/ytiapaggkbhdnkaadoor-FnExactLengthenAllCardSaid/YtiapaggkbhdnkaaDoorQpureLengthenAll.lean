/- The law LengthenAll holds. -/
import Derived.Test.YtiapaggkbhdnkaaDoorQpureShorts
import Derived.Test.YtiapaggkbhdnkaaDoorQpureValidShorts
import Derived.Test.YtiapaggkbhdnkaaDoorQpureInsertB
import Derived.Test.YtiapaggkbhdnkaaDoorQpureJoinText
import Derived.Test.YtiapaggkbhdnkaaDoorQpureMarkS
import Derived.Test.YtiapaggkbhdnkaaDoorQpureLaw
import Derived.Test.YtiapaggkbhdnkaaDoorQlawsFnExactLengthenAll
namespace Go.Proofs.YtiapaggkbhdnkaaDoor.Q
open Go.RowKit Go.Proofs.YtiapaggkbhdnkaaDoorW.PrintWords Go.Proofs.YtiapaggkbhdnkaaDoorW.PrintLast Go.Proofs.YtiapaggkbhdnkaaDoorW.PrintMore
open Go.Proofs.YtiapaggkbhdnkaaDoor.Pure
set_option linter.unusedVariables false
set_option linter.unusedSimpArgs false

theorem shortsB_few (l : List ISh) (h : shortsB l = true) : l.length ≤ 6 ∧ ∀ x ∈ l, x.f0.size ≤ 20 ∧ x.f1.size ≤ 20 := by
  unfold shortsB at h
  rw [Bool.and_eq_true, decide_eq_true_iff, List.all_eq_true] at h
  refine ⟨by omega, fun x hx => ?_⟩
  obtain ⟨i, hi, rfl⟩ := List.getElem_of_mem hx
  have := h.1 i (List.mem_range.2 hi)
  unfold stSh okSh at this
  rw [rdISh_get _ _ hi] at this
  simp only [Bool.and_eq_true, decide_eq_true_iff] at this
  omega
theorem rdL9_get (xs : List (List ByteArray)) (k : Nat) (h : k < xs.length) : rd_L9 xs (k : Int) = xs[k] := by
  unfold rd_L9
  rw [Int.toNat_natCast, List.getD_eq_getElem?_getD, List.getElem?_eq_getElem h]
  rfl
def longsOf (l : List ISh) (w : ByteArray) : List ByteArray := w :: (l.filter fun s => decide (s.f1.toList = w.toList)).map fun s => s.f0
theorem longs_step (l : List ISh) (w : ByteArray) (i : Nat) (h : i < l.length) : longsOf (l.take (i + 1)) w = if (l[i].f1).toList = w.toList then longsOf (l.take i) w ++ [l[i].f0] else longsOf (l.take i) w := by
  unfold longsOf
  rw [take_snoc l i h, List.filter_append, List.map_append]
  by_cases hc : (l[i].f1).toList = w.toList
  · rw [if_pos hc, List.filter_cons_of_pos (by simpa using hc)]
    rfl
  · rw [if_neg hc, List.filter_cons_of_neg (by simpa using hc)]
    simp
theorem longs_len (l : List ISh) (w : ByteArray) : (longsOf l w).length ≤ l.length + 1 := by
  unfold longsOf
  rw [List.length_cons, List.length_map]
  have := List.length_filter_le (fun s => decide (s.f1.toList = w.toList)) l
  omega
theorem longs_mem {l : List ISh} {w x : ByteArray} (h : x ∈ longsOf l w) : x = w ∨ ∃ s ∈ l, x = s.f0 := by
  unfold longsOf at h
  rcases List.mem_cons.1 h with h | h
  · exact .inl h
  · obtain ⟨s, hs, rfl⟩ := List.mem_map.1 h
    exact .inr ⟨s, (List.mem_filter.1 hs).1, rfl⟩
theorem spec_l02Longs.val (l : List ISh) (w : ByteArray) (hl : l.length ≤ 6) (k : Nat) (hk : l.length < k) : spec_l02Longs.f k l w = some (longsOf l w) := by
  unfold spec_l02Longs.f
  have := scan_inv (n := l.length) (M := 0) (l := fun k i x => spec_l02Longs.l0 k l w x i) (at_ := fun i => longsOf (l.take i) w) (r := longsOf l w) (fun k i hi _ => ?_) (fun k _ => ?_) k (by omega)
  · exact this
  · simp only [spec_l02Longs.l0]
    have h1 := longs_len (l.take i) w
    rw [List.length_take] at h1
    rw [if_pos (by omega), if_pos (by omega), rdISh_get l i hi, longs_step l w i hi, wrap_succ hi (by omega)]
    by_cases hc : (l[i].f1).toList = w.toList
    · rw [if_pos hc, if_pos hc, if_pos (by omega)]
    · rw [if_neg hc, if_neg hc]
  · simp only [spec_l02Longs.l0]
    rw [if_neg (by omega), List.take_length]
def prodL (outs : List (List ByteArray)) (ways : List ByteArray) : List (List ByteArray) := outs.flatMap fun b => ways.map fun w => b ++ [w]
theorem prod_step (outs : List (List ByteArray)) (ways : List ByteArray) (i : Nat) (h : i < outs.length) : prodL (outs.take (i + 1)) ways = prodL (outs.take i) ways ++ ways.map fun w => outs[i] ++ [w] := by
  unfold prodL
  rw [take_snoc outs i h, List.flatMap_append]
  simp
theorem prod_len (ways : List ByteArray) : ∀ outs : List (List ByteArray), (prodL outs ways).length = outs.length * ways.length
  | [] => by simp [prodL]
  | b :: outs => by
    have := prod_len ways outs
    have h : prodL (b :: outs) ways = (ways.map fun w => b ++ [w]) ++ prodL outs ways := rfl
    rw [h, List.length_append, List.length_map, this, List.length_cons, Nat.add_mul, Nat.one_mul, Nat.add_comm]
theorem prod_mem {outs : List (List ByteArray)} {ways : List ByteArray} {x : List ByteArray} (h : x ∈ prodL outs ways) : ∃ b ∈ outs, ∃ w ∈ ways, x = b ++ [w] := by
  unfold prodL at h
  obtain ⟨b, hb, hx⟩ := List.mem_flatMap.1 h
  obtain ⟨w, hw, rfl⟩ := List.mem_map.1 hx
  exact ⟨b, hb, w, hw, rfl⟩
/-- What holds of the ways so far. -/
structure OutOk (n : Nat) (outs : List (List ByteArray)) : Prop where
  few : outs.length ≤ 200
  len : ∀ x ∈ outs, x.length ≤ n
  good : ∀ x ∈ outs, ∀ y ∈ x, goodB y ∧ y.size ≤ 60
structure WayOk (ways : List ByteArray) : Prop where
  few : ways.length ≤ 7
  good : ∀ y ∈ ways, goodB y ∧ y.size ≤ 60
theorem prod_ok {n : Nat} {outs : List (List ByteArray)} {ways : List ByteArray} (h : OutOk n outs) (hw : WayOk ways) (hf : ¬ 200 < (prodL outs ways).length) : OutOk (n + 1) (prodL outs ways) where
  few := by omega
  len x hx := by
    obtain ⟨b, hb, w, hw, rfl⟩ := prod_mem hx
    have := h.len b hb
    simp only [List.length_append, List.length_singleton]
    omega
  good x hx y hy := by
    obtain ⟨b, hb, w, hw', rfl⟩ := prod_mem hx
    rcases List.mem_append.1 hy with hy | hy
    · exact h.good b hb y hy
    · rw [List.mem_singleton.1 hy]
      exact hw.good w hw'
theorem prod_le {n : Nat} {outs : List (List ByteArray)} {ways : List ByteArray} (h : OutOk n outs) (hw : WayOk ways) (i : Nat) : (prodL (outs.take i) ways).length ≤ 1400 := by
  rw [prod_len, List.length_take]
  have h1 := h.few
  have h2 := hw.few
  calc _ ≤ 200 * 7 := Nat.mul_le_mul (by omega) h2
    _ = 1400 := rfl
def goW (l : List ISh) : List ByteArray → List (List ByteArray) → Option (List (List ByteArray))
  | [], outs => some outs
  | w :: ws, outs => if 200 < (prodL outs (longsOf l w)).length then none else goW l ws (prodL outs (longsOf l w))
def keptL (R : List (List ByteArray)) : List ByteArray := (R.map fun x => joinB x spB).filter fun x => decide ((x.size : Int) ≤ 60)
theorem kept_step (R : List (List ByteArray)) (i : Nat) (h : i < R.length) : keptL (R.take (i + 1)) = if ((joinB R[i] spB).size : Int) ≤ 60 then keptL (R.take i) ++ [joinB R[i] spB] else keptL (R.take i) := by
  unfold keptL
  rw [take_snoc R i h, List.map_append, List.filter_append]
  by_cases hc : ((joinB R[i] spB).size : Int) ≤ 60
  · rw [if_pos hc]
    simp [hc]
  · rw [if_neg hc]
    simp [hc]
theorem kept_len (R : List (List ByteArray)) : (keptL R).length ≤ R.length := by
  unfold keptL
  have := List.length_filter_le (fun x : ByteArray => decide ((x.size : Int) ≤ 60)) (R.map fun x => joinB x spB)
  rw [List.length_map] at this
  exact this
def insL (l : List ByteArray) : List ByteArray := l.foldl (fun o v => insT v o) []
theorem insL_snoc (l : List ByteArray) (x : ByteArray) : insL (l ++ [x]) = insT x (insL l) := by
  unfold insL
  rw [List.foldl_append]
  rfl
theorem insL_len_go (l : List ByteArray) : ∀ o : List ByteArray, (l.foldl (fun o v => insT v o) o).length ≤ o.length + l.length := by
  induction l with
  | nil => intro o; simp
  | cons v l ih =>
    intro o
    have h1 := ih (insT v o)
    have h2 := insT_len v o
    simp only [List.foldl_cons, List.length_cons]
    omega
theorem insL_len (l : List ByteArray) : (insL l).length ≤ l.length := by
  have := insL_len_go l []
  unfold insL
  simpa using this
def ansG (R : Option (List (List ByteArray))) : List ByteArray × Int := match R with | none => ([], 3) | some o => (insL (keptL o), 0)
theorem fine_of {n : Nat} {R : List (List ByteArray)} (h : OutOk n R) (hn : n ≤ 100) (i : Nat) (hi : i < R.length) : joinFine R[i] := by
  have h1 := h.len R[i] (List.getElem_mem hi)
  refine ⟨by omega, fun x hx => ?_⟩
  have := (h.good R[i] (List.getElem_mem hi) x hx).2
  omega
theorem joinS_val (l : List ByteArray) (h : joinFine l) : strings_Join.f l (⟨#[32]⟩ : ByteArray) = some (joinB l spB) := by
  unfold strings_Join.f
  rw [if_pos ⟨h, Nat.le_refl 1⟩]
  rfl
/-! ### the program -/
theorem impl_l4 {n : Nat} {R : List (List ByteArray)} (h : OutOk n R) (hn : n ≤ 100) (k : Nat) (hk : R.length < k) : impl_LengthenAll.l4 k ([] : List ByteArray) R (R.length : Int) 0 = some (ansG (some R)) := by
  have hf := h.few
  have := scan_inv (n := R.length) (M := 0) (l := fun k i x => impl_LengthenAll.l4 k x R (R.length : Int) i) (at_ := fun i => keptL (R.take i)) (r := ansG (some R)) (fun k i hi _ => ?_) (fun k _ => ?_) k (by omega)
  · exact this
  · simp only [impl_LengthenAll.l4]
    have h1 := kept_len (R.take i)
    rw [List.length_take] at h1
    rw [if_pos (by omega), if_pos (by omega), if_pos (by omega), rdL9_get R i hi, joinS_val _ (fine_of h hn i hi), Option.bind_some, kept_step R i hi, wrap_succ hi (by omega)]
    by_cases hc : ((joinB R[i] spB).size : Int) ≤ 60
    · rw [if_pos hc, if_pos hc, if_pos (by omega)]
    · rw [if_neg hc, if_neg hc]
  · have h1 := kept_len R
    simp only [impl_LengthenAll.l4]
    rw [if_neg (by omega), List.take_length]
    unfold slices_Sort_string.f slices_Compact_string.f
    rw [if_pos (by omega), Option.bind_some, if_pos (by rw [sortB_len]; omega), Option.bind_some, sorted_insT]
    rfl
theorem impl_l3 {l : List ISh} {ways : List ByteArray} {x12 : List (List ByteArray)} {b ws : List ByteArray} {x32 x33 : Int} {outs : List (List ByteArray)} {x57 : Int} {i : Nat} {r : List ByteArray × Int} {M : Nat}
    (hw : ways.length ≤ 7) (hx : x12.length ≤ 2000) (hb : b.length ≤ 100) (hi : i < 1000)
    (hk : ∀ k, M ≤ k → impl_LengthenAll.l2 k l ways (x12 ++ ways.map fun w => b ++ [w]) ws x32 x33 outs x57 ((i + 1 : Nat) : Int) = some r) :
    ∀ k, M + 8 < k → impl_LengthenAll.l3 k l ways x12 b ws x32 x33 outs x57 (i : Int) ways (ways.length : Int) 0 = some r := by
  intro k hM
  have := scan_inv (n := ways.length) (M := M) (l := fun k j x => impl_LengthenAll.l3 k l ways x b ws x32 x33 outs x57 (i : Int) ways (ways.length : Int) j) (at_ := fun j => x12 ++ (ways.take j).map fun w => b ++ [w]) (r := r) (fun k j hj _ => ?_) (fun k hk' => ?_) k (by omega)
  · simpa using this
  · have hc : slices_Clone_string.f b = some b := by unfold slices_Clone_string.f; rw [if_pos (by omega)]
    have hlen : (x12 ++ (ways.take j).map fun w => b ++ [w]).length ≤ 2007 := by
      rw [List.length_append, List.length_map, List.length_take]; omega
    simp only [impl_LengthenAll.l3]
    rw [if_pos (by omega), if_pos (by omega), if_pos (by omega), hc, Option.bind_some, if_pos (by omega), if_pos (by omega), rdOf_get _ _ _ hj, wrap_succ hj (by omega), take_snoc ways j hj, List.map_append, List.append_assoc]
    rfl
  · simp only [impl_LengthenAll.l3]
    rw [if_neg (by omega), List.take_length, wrap_id (by omega) (by omega)]
    exact hk k hk'
theorem impl_l2 {l : List ISh} {ways ws : List ByteArray} {x32 x33 : Int} {n : Nat} {outs : List (List ByteArray)} {r : List ByteArray × Int} {M : Nat}
    (hw : WayOk ways) (ho : OutOk n outs) (hn : n ≤ 100)
    (hk : ∀ k, M ≤ k → (if ((prodL outs ways).length : Int) > 200 then (some (([] : List ByteArray), (3 : Int))) else impl_LengthenAll.l0 k l (prodL outs ways) ws x32 (wrap64 (x33 + 1))) = some r) :
    ∀ d i : Nat, i + d = outs.length → ∀ k, M + d * 10 < k → impl_LengthenAll.l2 k l ways (prodL (outs.take i) ways) ws x32 x33 outs (outs.length : Int) (i : Int) = some r
  | 0, i, hd, k, hM => by
    obtain ⟨m, rfl⟩ : ∃ m, k = m + 1 := ⟨k - 1, by omega⟩
    rw [impl_LengthenAll.l2, if_neg (by omega), show i = outs.length by omega, List.take_length]
    exact hk m (by omega)
  | d + 1, i, hd, k, hM => by
    obtain ⟨m, rfl⟩ : ∃ m, k = m + 1 := ⟨k - 1, by omega⟩
    have hf := ho.few
    have hi : i < outs.length := by omega
    have h2 := prod_le ho hw i
    have h3 := ho.len outs[i] (List.getElem_mem hi)
    rw [impl_LengthenAll.l2, if_pos (by omega), if_pos (by omega), if_pos (by omega), rdL9_get outs i hi]
    refine impl_l3 (M := M + d * 10 + 1) hw.few (by omega) (by omega) (by omega) (fun k' hk' => ?_) m (by omega)
    rw [← prod_step outs ways i hi]
    exact impl_l2 hw ho hn hk d (i + 1) (by omega) k' (by omega)
theorem impl_l1 {l : List ISh} {outs : List (List ByteArray)} {w : ByteArray} {ws : List ByteArray} {x32 x33 : Int} {r : List ByteArray × Int} {M : Nat} (hl : l.length ≤ 6)
    (hk : ∀ k, M ≤ k → impl_LengthenAll.l2 k l (longsOf l w) ([] : List (List ByteArray)) ws x32 x33 outs (outs.length : Int) 0 = some r) (k : Nat) (hM : M + 8 < k) :
    impl_LengthenAll.l1 k l outs w [w] ws x32 x33 l (l.length : Int) 0 = some r := by
  have := scan_inv (n := l.length) (M := M) (l := fun k i x => impl_LengthenAll.l1 k l outs w x ws x32 x33 l (l.length : Int) i) (at_ := fun i => longsOf (l.take i) w) (r := r) (fun k i hi _ => ?_) (fun k hk' => ?_) k (by omega)
  · exact this
  · simp only [impl_LengthenAll.l1]
    have h1 := longs_len (l.take i) w
    rw [List.length_take] at h1
    rw [if_pos (by omega), if_pos (by omega), if_pos (by omega), rdISh_get l i hi, longs_step l w i hi, wrap_succ hi (by omega)]
    by_cases hc : (l[i].f1).toList = w.toList
    · rw [if_pos hc, if_pos hc, if_pos (by omega)]
    · rw [if_neg hc, if_neg hc]
  · simp only [impl_LengthenAll.l1]
    rw [if_neg (by omega), List.take_length]
    exact hk k hk'
theorem impl_l0 {C : Nat} (hC : 3000 ≤ C) {l : List ISh} {ws : List ByteArray} (hl : l.length ≤ 6) (hws : ws.length ≤ 61) (hways : ∀ w ∈ ws, WayOk (longsOf l w)) :
    ∀ d i : Nat, i + d = ws.length → ∀ outs, OutOk i outs → ∀ k, 300 + d * C < k → impl_LengthenAll.l0 k l outs ws (ws.length : Int) (i : Int) = some (ansG (goW l (ws.drop i) outs)) := by
  intro d
  induction d with
  | zero =>
    intro i hd outs ho k hM
    obtain ⟨m, rfl⟩ : ∃ m, k = m + 1 := ⟨k - 1, by omega⟩
    have := ho.few
    rw [impl_LengthenAll.l0, if_neg (by omega), List.drop_eq_nil_of_le (by omega)]
    exact impl_l4 ho (by omega) m (by omega)
  | succ d ih =>
    intro i hd outs ho k hM
    have hS : (d + 1) * C = d * C + C := Nat.succ_mul d C
    obtain ⟨m, rfl⟩ : ∃ m, k = m + 1 := ⟨k - 1, by omega⟩
    have hf := ho.few
    have hi : i < ws.length := by omega
    have hw := hways ws[i] (List.getElem_mem hi)
    rw [impl_LengthenAll.l0, if_pos (by omega), if_pos (by omega), if_pos (by omega), rdOf_get _ _ _ hi, List.drop_eq_getElem_cons hi]
    refine impl_l1 (M := 300 + d * C + 2100) hl (fun k' hk' => ?_) m (by omega)
    refine impl_l2 (M := 300 + d * C + 1) hw ho (by omega) (fun k'' hk'' => ?_) outs.length 0 (by omega) k' (by omega)
    rw [goW]
    by_cases hc : 200 < (prodL outs (longsOf l ws[i])).length
    · rw [if_pos (by omega), if_pos hc]
      rfl
    · rw [if_neg (by omega), if_neg hc, wrap_succ hi (by omega)]
      exact ih (i + 1) (by omega) _ (prod_ok ho hw hc) k'' (by omega)
/-! ### the reference -/
theorem spec_l5 {R : List (List ByteArray)} {out : List ByteArray} {v : ByteArray} {i : Nat} {r : List ByteArray × Int} {M : Nat} (hi : i < 1000) (ho : out.length ≤ 1000)
    (hk : ∀ k, M ≤ k → spec_LengthenAll.l4 k R (insT v out) ((i + 1 : Nat) : Int) = some r) :
    ∀ d j : Nat, j + d = out.length → out.take j ++ insT v (out.drop j) = insT v out → ∀ k, M + d < k → spec_LengthenAll.l5 k R out (i : Int) v (j : Int) = some r
  | 0, j, hd, he, k, hM => by
    obtain ⟨m, rfl⟩ : ∃ m, k = m + 1 := ⟨k - 1, by omega⟩
    have hj : j = out.length := by omega
    have e0 : out.drop j = [] := List.drop_eq_nil_of_le (by omega)
    have ew : wrap64 ((i : Int) + 1) = ((i + 1 : Nat) : Int) := by rw [wrap_id (by omega) (by omega)]; omega
    rw [e0, insT_nil] at he
    have hl : (out.take j).length ≤ 1000 := by rw [List.length_take]; omega
    rw [spec_LengthenAll.l5, if_neg (by omega)]
    simp only [Option.bind_some, Int.toNat_natCast]
    rw [if_pos (by omega), if_pos (by omega), e0, if_pos (by simp), if_pos (by simp; omega), if_pos (by simp; omega)]
    simp only [List.append_nil]
    rw [he, ew]
    exact hk m (by omega)
  | d + 1, j, hd, he, k, hM => by
    obtain ⟨m, rfl⟩ : ∃ m, k = m + 1 := ⟨k - 1, by omega⟩
    have hj : j < out.length := by omega
    have ed : out.drop j = out[j] :: out.drop (j + 1) := List.drop_eq_getElem_cons hj
    have ew : wrap64 ((i : Int) + 1) = ((i + 1 : Nat) : Int) := by rw [wrap_id (by omega) (by omega)]; omega
    rw [spec_LengthenAll.l5, if_pos (by omega), if_pos (by omega), rdOf_get _ _ _ hj, wrap_succ hj (by omega), ew]
    rw [ed, insT_cons] at he
    by_cases h1 : Op.bytesLess (out[j]).toList v.toList = true
    · rw [if_pos h1] at he ⊢
      refine spec_l5 hi ho hk d (j + 1) (by omega) ?_ m (by omega)
      rw [← he, take_snoc out j hj, List.append_assoc]
      rfl
    · rw [if_neg h1] at he ⊢
      by_cases h2 : (out[j]).toList = v.toList
      · rw [if_pos h2] at he ⊢
        rw [← ed, List.take_append_drop] at he
        rw [he]
        exact hk m (by omega)
      · rw [if_neg h2] at he ⊢
        rw [← ed] at he
        have hl1 : (out.take j).length ≤ 1000 := by rw [List.length_take]; omega
        have hl2 : (out.drop j).length ≤ 1000 := by rw [List.length_drop]; omega
        simp only [Option.bind_some, Int.toNat_natCast]
        rw [if_pos (by omega), if_pos (by simp; omega), if_pos (by simp; omega), if_pos (by simp; omega), List.nil_append, List.append_assoc]
        show spec_LengthenAll.l4 m R (out.take j ++ (v :: out.drop j)) _ = _
        rw [he]
        exact hk m (by omega)
theorem insL_take_len (R : List (List ByteArray)) (i : Nat) : (insL (keptL (R.take i))).length ≤ R.length := by
  have h1 := insL_len (keptL (R.take i))
  have h2 := kept_len (R.take i)
  rw [List.length_take] at h2
  omega
theorem spec_l4 {C : Nat} (hC : 3000 ≤ C) {n : Nat} {R : List (List ByteArray)} (h : OutOk n R) (hn : n ≤ 100) :
    ∀ d i : Nat, i + d = R.length → ∀ k, 5000 + d * C < k → spec_LengthenAll.l4 k R (insL (keptL (R.take i))) (i : Int) = some (ansG (some R)) := by
  intro d
  induction d with
  | zero =>
    intro i hd k hM
    obtain ⟨m, rfl⟩ : ∃ m, k = m + 1 := ⟨k - 1, by omega⟩
    rw [spec_LengthenAll.l4, if_neg (by omega), show i = R.length by omega, List.take_length]
    rfl
  | succ d ih =>
    intro i hd k hM
    have hS : (d + 1) * C = d * C + C := Nat.succ_mul d C
    obtain ⟨m, rfl⟩ : ∃ m, k = m + 1 := ⟨k - 1, by omega⟩
    have hf := h.few
    have hi : i < R.length := by omega
    have h1 := fine_of h hn i hi
    have h2 := h.len R[i] (List.getElem_mem hi)
    have h3 := insL_take_len R i
    have hz : (joinB R[i] spB).size ≤ 100 * 61 := by
      have := joinSp_le R[i] 60 (fun x hx => (h.good R[i] (List.getElem_mem hi) x hx).2)
      exact Nat.le_trans this (Nat.mul_le_mul (by omega) (Nat.le_refl _))
    have e1 : spec_l01Text.f m (joinB R[i] spB) = some (textB (joinB R[i] spB)) := by
      exact at_rounds (spec_l01Text.mono (joinB R[i] spB)) (by omega) (spec_l01Text.val (joinB R[i] spB) (by omega))
    have ih := ih (i + 1) (by omega)
    rw [kept_step R i hi] at ih
    rw [spec_LengthenAll.l4, if_pos (by omega), if_pos (by omega), rdL9_get R i hi, spec_l01Joined.val _ h1 _ (by omega), Option.bind_some, e1, Option.bind_some,
      join_text R[i] (fun x hx => (h.good R[i] (List.getElem_mem hi) x hx).1)]
    by_cases hc : ((joinB R[i] spB).size : Int) ≤ 60
    · rw [if_pos hc, insL_snoc] at ih
      rw [if_pos (decide_eq_true hc)]
      exact spec_l5 (M := 5000 + d * C + 1) (by omega) (by omega) (fun k' hk' => ih k' (by omega)) _ 0 (Nat.zero_add _) (by simp) m (by omega)
    · rw [if_neg hc] at ih
      rw [if_neg (by simpa using hc), wrap_succ hi (by omega)]
      exact ih m (by omega)
theorem spec_l3 {l : List ISh} {ws : List ByteArray} {outs : List (List ByteArray)} {x11 : Int} {ways : List ByteArray} {x13 : List (List ByteArray)} {i : Nat} {r : List ByteArray × Int} {M : Nat} (hi : i < outs.length)
    (hw : ways.length ≤ 7) (hx : x13.length ≤ 2000) (hb : outs[i].length ≤ 100) (hi2 : i < 1000)
    (hk : ∀ k, M ≤ k → spec_LengthenAll.l2 k l ws outs x11 ways (x13 ++ ways.map fun w => outs[i] ++ [w]) ((i + 1 : Nat) : Int) = some r) :
    ∀ k, M + 8 < k → spec_LengthenAll.l3 k l ws outs x11 ways x13 (i : Int) 0 = some r := by
  intro k hM
  have := scan_inv (n := ways.length) (M := M) (l := fun k j x => spec_LengthenAll.l3 k l ws outs x11 ways x (i : Int) j) (at_ := fun j => x13 ++ (ways.take j).map fun w => outs[i] ++ [w]) (r := r) (fun k j hj _ => ?_) (fun k hk' => ?_) k (by omega)
  · simpa using this
  · have hlen : (x13 ++ (ways.take j).map fun w => outs[i] ++ [w]).length ≤ 2007 := by
      rw [List.length_append, List.length_map, List.length_take]; omega
    simp only [spec_LengthenAll.l3, Option.bind_some]
    rw [if_pos (by omega), if_pos (by omega), if_pos (by omega), if_pos (by omega), rdL9_get outs i hi, rdOf_get _ _ _ hj, List.nil_append, if_pos (by simp; omega), if_pos (by simp; omega), if_pos (by simp; omega), wrap_succ hj (by omega), take_snoc ways j hj, List.map_append, List.append_assoc]
    rfl
  · simp only [spec_LengthenAll.l3]
    rw [if_neg (by omega), List.take_length, wrap_id (by omega) (by omega)]
    exact hk k hk'
theorem spec_l2 {l : List ISh} {ws : List ByteArray} {x11 : Int} {n : Nat} {ways : List ByteArray} {outs : List (List ByteArray)} {r : List ByteArray × Int} {M : Nat}
    (hw : WayOk ways) (ho : OutOk n outs) (hn : n ≤ 100)
    (hk : ∀ k, M ≤ k → spec_LengthenAll.l1 k l ws (prodL outs ways) (wrap64 (x11 + 1)) = some r) :
    ∀ d i : Nat, i + d = outs.length → ∀ k, M + d * 10 < k → spec_LengthenAll.l2 k l ws outs x11 ways (prodL (outs.take i) ways) (i : Int) = some r
  | 0, i, hd, k, hM => by
    obtain ⟨m, rfl⟩ : ∃ m, k = m + 1 := ⟨k - 1, by omega⟩
    rw [spec_LengthenAll.l2, if_neg (by omega), show i = outs.length by omega, List.take_length]
    exact hk m (by omega)
  | d + 1, i, hd, k, hM => by
    obtain ⟨m, rfl⟩ : ∃ m, k = m + 1 := ⟨k - 1, by omega⟩
    have hf := ho.few
    have hi : i < outs.length := by omega
    have h2 := prod_le ho hw i
    have h3 := ho.len outs[i] (List.getElem_mem hi)
    rw [spec_LengthenAll.l2, if_pos (by omega)]
    refine spec_l3 (M := M + d * 10 + 1) hi hw.few (by omega) (by omega) (by omega) (fun k' hk' => ?_) m (by omega)
    rw [← prod_step outs ways i hi]
    exact spec_l2 hw ho hn hk d (i + 1) (by omega) k' (by omega)
theorem spec_l1 {C B : Nat} (hB : 5000 + 201 * C < B) (hC : 3000 ≤ C) {l : List ISh} {ws : List ByteArray} (hl : l.length ≤ 6) (hws : ws.length ≤ 61) (hways : ∀ w ∈ ws, WayOk (longsOf l w)) :
    ∀ d i : Nat, i + d = ws.length → ∀ outs, OutOk i outs → ∀ R, goW l (ws.drop i) outs = some R → ∀ k, B + d * C < k → spec_LengthenAll.l1 k l ws outs (i : Int) = some (ansG (some R)) := by
  intro d
  induction d with
  | zero =>
    intro i hd outs ho R hR k hM
    obtain ⟨m, rfl⟩ : ∃ m, k = m + 1 := ⟨k - 1, by omega⟩
    have hf := ho.few
    rw [List.drop_eq_nil_of_le (by omega), goW, Option.some.injEq] at hR
    subst hR
    rw [spec_LengthenAll.l1, if_neg (by omega)]
    have hq : outs.length * C ≤ 201 * C := Nat.mul_le_mul_right C (by omega)
    exact spec_l4 hC ho (by omega) outs.length 0 (by omega) m (by omega)
  | succ d ih =>
    intro i hd outs ho R hR k hM
    have hS : (d + 1) * C = d * C + C := Nat.succ_mul d C
    obtain ⟨m, rfl⟩ : ∃ m, k = m + 1 := ⟨k - 1, by omega⟩
    have hf := ho.few
    have hi : i < ws.length := by omega
    have hw := hways ws[i] (List.getElem_mem hi)
    rw [List.drop_eq_getElem_cons hi, goW] at hR
    by_cases hc : 200 < (prodL outs (longsOf l ws[i])).length
    · rw [if_pos hc] at hR; cases hR
    rw [if_neg hc] at hR
    rw [spec_LengthenAll.l1, if_pos (by omega), if_pos (by omega), rdOf_get _ _ _ hi, spec_l02Longs.val l _ hl _ (by omega), Option.bind_some]
    refine spec_l2 (M := B + d * C + 1) hw ho (by omega) (fun k' hk' => ?_) outs.length 0 (by omega) m (by omega)
    rw [wrap_succ hi (by omega)]
    exact ih (i + 1) (by omega) _ (prod_ok ho hw hc) R hR k' (by omega)
theorem spec_l0 {l : List ISh} {ws : List ByteArray} (hl : l.length ≤ 6) (hws : ws.length ≤ 61) (hways : ∀ w ∈ ws, WayOk (longsOf l w)) {g : Option (List (List ByteArray))}
    (hg : goW l ws [[]] = g) : ∀ d i : Nat, i + d = ws.length → ∀ outs, OutOk i outs → goW l (ws.drop i) outs = g → ∀ k, 900000 + d < k → spec_LengthenAll.l0 k l ws (outs.length : Int) (i : Int) = some (ansG g)
  | 0, i, hd, outs, ho, hR, k, hM => by
    obtain ⟨m, rfl⟩ : ∃ m, k = m + 1 := ⟨k - 1, by omega⟩
    rw [List.drop_eq_nil_of_le (by omega), goW] at hR
    subst hR
    rw [spec_LengthenAll.l0, if_neg (by omega)]
    exact spec_l1 (C := 3000) (B := 650000) (by omega) (Nat.le_refl 3000) hl hws hways ws.length 0 (by omega) [[]] ⟨by simp, by simp, by simp⟩ _ hg m (by omega)
  | d + 1, i, hd, outs, ho, hR, k, hM => by
    obtain ⟨m, rfl⟩ : ∃ m, k = m + 1 := ⟨k - 1, by omega⟩
    have hf := ho.few
    have hi : i < ws.length := by omega
    have hw := hways ws[i] (List.getElem_mem hi)
    have hp := prod_len (longsOf l ws[i]) outs
    have hle : (prodL outs (longsOf l ws[i])).length ≤ 1400 := by
      have := prod_le ho hw outs.length
      rwa [List.take_length] at this
    have hm : (outs.length : Int) * ((longsOf l ws[i]).length : Int) = ((prodL outs (longsOf l ws[i])).length : Int) := by rw [hp]; simp
    rw [List.drop_eq_getElem_cons hi, goW] at hR
    rw [spec_LengthenAll.l0, if_pos (by omega), if_pos (by omega), rdOf_get _ _ _ hi, spec_l02Longs.val l _ hl _ (by omega), Option.bind_some, hm, wrap_id (n := ((prodL outs (longsOf l ws[i])).length : Int)) (by omega) (by omega)]
    by_cases hc : 200 < (prodL outs (longsOf l ws[i])).length
    · rw [if_pos hc] at hR
      subst hR
      rw [if_pos (by omega)]
      rfl
    · rw [if_neg hc] at hR
      rw [if_neg (by omega), wrap_succ hi (by omega)]
      exact spec_l0 hl hws hways hg d (i + 1) (by omega) _ (prod_ok ho hw hc) hR m (by omega)
/-! ### both -/
def ansLA (a : ByteArray) (l : List ISh) : List ByteArray × Int :=
  if textB a = true then (if shortsB l = true then ansG (goW l (wordsF a) [[]]) else ([], 1)) else ([], 1)
theorem ways_ok {a : ByteArray} {l : List ISh} (ht : textB a = true) (hs : shortsB l = true) : ∀ w ∈ wordsF a, WayOk (longsOf l w) := by
  intro w hw
  obtain ⟨h6, h20⟩ := shortsB_few l hs
  refine ⟨by have := longs_len l w; omega, fun y hy => ?_⟩
  rcases longs_mem hy with rfl | ⟨s, hs', rfl⟩
  · refine ⟨words_good ht _ hw, ?_⟩
    have := words_size a _ hw
    have := text_small ht
    omega
  · have := (h20 s hs').1
    exact ⟨shorts_good hs s hs', by omega⟩
theorem impl_LengthenAll.val (a : ByteArray) (l : List ISh) (hl : l.length ≤ 1048576) (k : Nat) (hk : 2000000 ≤ k) : impl_LengthenAll.f k a l = some (ansLA a l) := by
  obtain ⟨m, rfl⟩ : ∃ m, k = m + 1 := ⟨k - 1, by omega⟩
  unfold impl_LengthenAll.f ansLA
  rw [impl_ValidText.valM a _ (by omega), Option.bind_some]
  by_cases ht : textB a = true
  · rw [if_pos ht, if_pos ht, impl_ValidShorts.val l (by omega) _ (by omega), Option.bind_some]
    have hw := wordsF_small ht
    by_cases hs : shortsB l = true
    · obtain ⟨h6, h20⟩ := shortsB_few l hs
      rw [if_pos hs, hs, impl_LengthenAll.j0, if_neg (by decide), strings_Fields.val a ht, Option.bind_some]
      exact impl_l0 (Nat.le_refl 3000) h6 hw (ways_ok ht hs) (wordsF a).length 0 (by omega) [[]] ⟨by simp, by simp, by simp⟩ m (by omega)
    · rw [if_neg hs, Bool.eq_false_iff.2 hs, impl_LengthenAll.j0, if_pos (by decide)]
  · rw [if_neg ht, if_neg ht, impl_LengthenAll.j0, if_pos rfl]
theorem spec_LengthenAll.val (a : ByteArray) (ha : a.size ≤ 1048576) (l : List ISh) (hl : l.length ≤ 1048576) (hs : ∀ x ∈ l, x.f0.size ≤ 1048576 ∧ x.f1.size ≤ 1048576) (k : Nat) (hk : 4000000 ≤ k) : spec_LengthenAll.f k a l = some (ansLA a l) := by
  unfold spec_LengthenAll.f spec_l02Asked.f ansLA
  rw [at_rounds (spec_l01Text.mono a) (by omega) (spec_l01Text.val a (by omega)), Option.bind_some]
  by_cases ht : textB a = true
  · rw [if_pos ht, if_pos ht, spec_l02Shorts.val l (by omega) 1048576 hs (by omega) _ (by omega), Option.bind_some]
    have hw := wordsF_small ht
    by_cases hb : shortsB l = true
    · obtain ⟨h6, h20⟩ := shortsB_few l hb
      rw [if_pos hb, if_pos hb, Option.bind_some, if_pos rfl, spec_l01Words.val a ht _ (by omega), Option.bind_some]
      exact spec_l0 h6 hw (ways_ok ht hb) rfl (wordsF a).length 0 (by omega) [[]] ⟨by simp, by simp, by simp⟩ rfl k (by omega)
    · rw [if_neg hb, if_neg hb, Option.bind_some, if_neg (by decide)]
  · rw [if_neg ht, if_neg ht, Option.bind_some, if_neg (by decide)]
theorem goW_ok {l : List ISh} {ws : List ByteArray} (hways : ∀ w ∈ ws, WayOk (longsOf l w)) : ∀ d i : Nat, i + d = ws.length → ∀ outs, OutOk i outs → ∀ R, goW l (ws.drop i) outs = some R → R.length ≤ 200
  | 0, i, hd, outs, ho, R, hR => by
    rw [List.drop_eq_nil_of_le (by omega), goW, Option.some.injEq] at hR
    subst hR
    exact ho.few
  | d + 1, i, hd, outs, ho, R, hR => by
    have hi : i < ws.length := by omega
    rw [List.drop_eq_getElem_cons hi, goW] at hR
    by_cases hc : 200 < (prodL outs (longsOf l ws[i])).length
    · rw [if_pos hc] at hR; cases hR
    · rw [if_neg hc] at hR
      exact goW_ok hways d (i + 1) (by omega) _ (prod_ok ho (hways ws[i] (List.getElem_mem hi)) hc) R hR
theorem ansLA_len (a : ByteArray) (l : List ISh) : (ansLA a l).1.length ≤ 200 := by
  unfold ansLA
  by_cases ht : textB a = true
  · rw [if_pos ht]
    by_cases hs : shortsB l = true
    · rw [if_pos hs]
      cases hg : goW l (wordsF a) [[]] with
      | none => simp [ansG]
      | some R =>
        have h1 := goW_ok (ways_ok ht hs) (wordsF a).length 0 (by omega) [[]] ⟨by simp, by simp, by simp⟩ R hg
        have h2 := insL_len (keptL R)
        have h3 := kept_len R
        show (insL (keptL R)).length ≤ 200
        omega
    · rw [if_neg hs]; simp
  · rw [if_neg ht]; simp
noncomputable def markSh (j : Nat) : ISh := ⟨markV ((2 * j + 1 : Nat) : Int), markV ((2 * j + 2 : Nat) : Int)⟩
noncomputable def marksSh (n : Nat) : List ISh := (List.range n).map markSh
theorem marksSh_len (n : Nat) : (marksSh n).length = n := by simp [marksSh]
theorem marksSh_step (xs : List ISh) (i : Nat) (h : i < xs.length) : (marksSh i ++ xs.drop i).set i (markSh i) = marksSh (i + 1) ++ xs.drop (i + 1) := by
  rw [List.set_append_right _ _ (by rw [marksSh_len]; exact Nat.le_refl _), marksSh_len, Nat.sub_self, List.drop_eq_getElem_cons h, List.set_cons_zero]
  simp [marksSh, List.range_succ]
theorem laws_markShortS.val (l : List ISh) (hl : l.length ≤ 1048577) (k : Nat) (hk : l.length + 21 < k) : laws_markShortS.f k l 1 = some (((2 * l.length + 1 : Nat) : Int), marksSh l.length) := by
  unfold laws_markShortS.f
  have := scan_inv (n := l.length) (M := 21) (l := fun k i (x : Int × List ISh) => laws_markShortS.l0 k x.2 x.1 i) (at_ := fun i => (((2 * i + 1 : Nat) : Int), marksSh i ++ l.drop i)) (r := (((2 * l.length + 1 : Nat) : Int), marksSh l.length)) (fun k i hi hM => ?_) (fun k hM => ?_) k (by omega)
  · simpa [marksSh] using this
  · have hlen : (marksSh i ++ l.drop i).length = l.length := by rw [List.length_append, marksSh_len, List.length_drop]; omega
    simp only [laws_markShortS.l0]
    have w1 : wrap64 (((2 * i + 1 : Nat) : Int) + 1) = ((2 * i + 2 : Nat) : Int) := by rw [wrap_id (by omega) (by omega)]; omega
    have w2 : wrap64 (((2 * i + 2 : Nat) : Int) + 1) = ((2 * (i + 1) + 1 : Nat) : Int) := by rw [wrap_id (by omega) (by omega)]; omega
    rw [hlen, if_pos (by omega), markV_spec _ (by omega) k (by omega), w1, w2, markV_spec ((2 * i + 2 : Nat) : Int) (by omega) k (by omega)]
    simp only [Option.bind_some]
    rw [if_pos (by omega), Int.toNat_natCast, rdISh_get ((marksSh i ++ l.drop i).set i _) i (by rw [List.length_set, hlen]; exact hi), List.getElem_set_self, List.set_set, wrap_succ hi (by omega)]
    have := marksSh_step l i hi
    rw [← this]
    rfl
  · have hlen : (marksSh l.length ++ l.drop l.length).length = l.length := by rw [List.length_append, marksSh_len, List.length_drop]; omega
    simp only [laws_markShortS.l0]
    rw [hlen, if_neg (by omega)]
    simp
theorem laws_FnExactLengthenAll.holds (a : ByteArray) (l : List LSh) (A : Option Addr) (c : Nat) (W : World) (hG : GlobF W) (hr : Kd.C k50 W A l.length l) (hc : l.length ≤ c) (ha : a.size ≤ 9223372036854775807) (hs : ∀ x ∈ l, x.f0.size ≤ 9223372036854775807 ∧ x.f1.size ≤ 9223372036854775807) :
    Calls Tryd.prog 7 #[.string a, .slice A l.length c] W fun e w' => e = .returned (.bool true) ∧ Below W.heap.size W w' := by
  have hm := Kd.C_max hr
  obtain ⟨K, hK⟩ : ∃ K, K = l.length + 4000000 := ⟨_, rfl⟩
  refine laws_FnExactLengthenAll.calls (K + 3) a A c l true W hG hr hc ?_
  obtain ⟨r, h1, h2⟩ := laws_szShortS.val l hm hs 1048576 (by omega) (by omega)
  unfold laws_FnExactLengthenAll.f
  by_cases h0 : (a.size : Int) > 1048576
  · rw [if_pos h0]
  rw [if_neg h0, at_rounds (laws_szShortS.mono l 1048576) (by omega) h1, Option.bind_some]
  by_cases h : r < 0
  · rw [if_pos h]
  · rw [if_neg h]
    have hl : l.length ≤ 1048576 := by omega
    have eT : ∀ k, l.length < k → laws_toShortS.f k l = some (l.map toSh) := fun k hk => at_rounds (laws_toShortS.mono l) (by omega) (laws_toShortS.val l (by omega))
    have hml : (l.map toSh).length = l.length := by simp
    have h3 : ∀ x ∈ l, x.f0.size ≤ 1048576 ∧ x.f1.size ≤ 1048576 := fun x hx => by
      rcases h2 with h2 | h2
      · omega
      · have := h2.2.2.2 x hx; omega
    have hlen := ansLA_len a (l.map toSh)
    have e5 : ∀ k, 4000000 + l.length ≤ k → spec_LengthenAll.f k a (l.map toSh) = some (ansLA a (l.map toSh)) := fun k hk => spec_LengthenAll.val a (by omega) (l.map toSh) (by omega) (fun x hx => by obtain ⟨y, hy, rfl⟩ := List.mem_map.1 hx; exact h3 y hy) k (by omega)
    have e4 : ∀ k, 4000000 + l.length ≤ k → impl_LengthenAll.f k a (l.map toSh) = some (ansLA a (l.map toSh)) := fun k hk => impl_LengthenAll.val a (l.map toSh) (by omega) k (by omega)
    have e3 : ∀ k, l.length < k → laws_eqShortS.f k (l.map toSh) (l.map toSh) = some true := fun k hk => at_rounds (laws_eqShortS.mono (l.map toSh) (l.map toSh)) (by omega) (laws_eqShortS.val_self (l.map toSh) (by omega))
    have e2 : ∀ k, 4000000 + l.length ≤ k → laws_eqStringS.f k (ansLA a (l.map toSh)).1 (ansLA a (l.map toSh)).1 = some true := fun k hk => by
      rw [at_rounds (laws_eqStringS.mono _ _) (by omega) (laws_eqStringS.val (ansLA a (l.map toSh)).1 (ansLA a (l.map toSh)).1 (by omega))]; simp
    have e8 : ∀ k, 4000000 + l.length ≤ k → laws_markShortS.f k (l.map toSh) 1 = some (((2 * (l.map toSh).length + 1 : Nat) : Int), marksSh (l.map toSh).length) := fun k hk => laws_markShortS.val _ (by omega) k (by omega)
    generalize hq : ansLA a (l.map toSh) = q at *
    have e6 : ∀ k, 4000000 + l.length ≤ k → laws_markStringS.f k q.1 1 = some (((q.1.length + 1 : Nat) : Int), marksTo q.1.length) := fun k hk => laws_markStringS.val q.1 (by omega) k (by omega)
    have e7 : ∀ k, 4000000 + l.length ≤ k → laws_heldStringS.f k (marksTo q.1.length) 1 = some ((q.1.length + 1 : Nat) : Int) := fun k hk => laws_heldStringS.val q.1.length (by omega) k (by omega)
    rw [eT _ (by omega), Option.bind_some, e5 _ (by omega), Option.bind_some, Option.bind_some, e4 _ (by omega), Option.bind_some, e2 _ (by omega), Option.bind_some, if_pos rfl, bne_self_eq_false]
    show laws_FnExactLengthenAll.j0 (K + 2 + 1) _ _ _ _ _ _ _ _ = _
    rw [laws_FnExactLengthenAll.j0, if_neg (by decide), eT _ (by omega), Option.bind_some, e3 _ (by omega), Option.bind_some, if_pos rfl, e8 _ (by omega), Option.bind_some, if_neg (by omega), e2 _ (by omega), Option.bind_some, if_pos rfl, bne_self_eq_false]
    show laws_FnExactLengthenAll.j1 (K + 1 + 1) _ _ _ _ _ _ = _
    rw [laws_FnExactLengthenAll.j1, if_neg (by decide), e6 _ (by omega), Option.bind_some, e7 _ (by omega), Option.bind_some, if_neg (by omega), if_pos rfl, eT _ (by omega), Option.bind_some, e4 _ (by omega), Option.bind_some, e2 _ (by omega), Option.bind_some, if_pos rfl, bne_self_eq_false]
    show laws_FnExactLengthenAll.j2 (K + 1) _ _ _ = _
    rw [laws_FnExactLengthenAll.j2, if_neg (by decide), e7 _ (by omega), Option.bind_some, if_neg (by omega), if_pos rfl]
end Go.Proofs.YtiapaggkbhdnkaaDoor.Q
