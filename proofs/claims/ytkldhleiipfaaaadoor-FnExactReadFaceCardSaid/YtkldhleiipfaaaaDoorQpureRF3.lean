/- Texts as lists of bytes; what the reference makes of a face's words. -/
import Derived.Test.YtkldhleiipfaaaaDoorQpureRF2
import Derived.Test.YtkldhleiipfaaaaDoorQRd
namespace Go.Proofs.YtkldhleiipfaaaaDoor.Q
open Go.RowKit Go.Proofs.YtkldhleiipfaaaaDoorW.PrintWords Go.Proofs.YtkldhleiipfaaaaDoorW.PrintLast Go.Proofs.YtkldhleiipfaaaaDoorW.PrintMore
open Go.Proofs.YtkldhleiipfaaaaDoor.Pure Go.Lib
set_option linter.unusedVariables false
set_option linter.unusedSimpArgs false

def mkB (l : List UInt8) : ByteArray := ⟨l.toArray⟩
theorem mk_size (l : List UInt8) : (mkB l).size = l.length := by simp [mkB, ByteArray.size]
theorem mk_data (l : List UInt8) : (mkB l).data.toList = l := rfl
theorem mk_of (a : ByteArray) : mkB a.data.toList = a := rfl
theorem mk_toList (l : List UInt8) : (mkB l).toList = l := by rw [ByteArray.toList_eq]; rfl
theorem mk_bt (l : List UInt8) (i : Nat) (h : i < l.length) : bt (mkB l) (i : Int) = (l[i].toNat : Int) := by
  have h1 : (i : Int).toNat < (mkB l).size := by rw [mk_size]; simpa using h
  have := bt_at (mkB l) (i : Int) h1
  rw [← this]
  simp only [Int.toNat_natCast]
  rfl
theorem mk_tail (c : UInt8) (r : List UInt8) : (mkB (c :: r)).extract 1 (mkB (c :: r)).size = mkB r := by
  apply ByteArray.ext
  rw [ByteArray.data_extract]
  apply Array.toList_inj.1
  rw [mk_size]
  simp [mkB, List.extract_eq_take_drop]

theorem mk_tail' (c : UInt8) (r : List UInt8) : (mkB (c :: r)).extract 1 ((c :: r).length) = mkB r := by rw [← mk_size]; exact mk_tail c r

def sliceL (a : ByteArray) (s i : Nat) : List UInt8 := (a.data.toList.drop s).take (i - s)
theorem extract_slice (a : ByteArray) (s i : Nat) : a.extract s i = ⟨(sliceL a s i).toArray⟩ := by
  apply ByteArray.ext
  rw [ByteArray.data_extract]
  apply Array.toList_inj.1
  simp [sliceL, List.extract_eq_take_drop]
theorem sliceL_step (a : ByteArray) (s i : Nat) (hs : s ≤ i) (hi : i < a.size) : sliceL a s (i + 1) = sliceL a s i ++ [a[i]] := by
  unfold sliceL
  have hl : i - s < (a.data.toList.drop s).length := by rw [List.length_drop, data_length]; omega
  rw [show i + 1 - s = (i - s) + 1 by omega, List.take_succ_eq_append_getElem hl]
  congr 1
  simp [List.getElem_drop, show s + (i - s) = i by omega]
  rfl
theorem byte_at (a : ByteArray) (i : Nat) (h : i < a.size) : bt a i = (a[i].toNat : Int) := by
  have := bt_at a (i : Int) (by simpa using h)
  simp only [Int.toNat_natCast] at this
  exact this.symm
theorem split_cut (a : ByteArray) (c : UInt8) (ha : a.size ≤ 1048576) : ∀ d i s (acc : List ByteArray), i + d = a.size → s ≤ i → acc.length ≤ i →
    spec_l01Split.l0 (d + 1) a (c.toNat : Int) acc (s : Nat) (i : Nat) = some (acc ++ (cutAt c (sliceL a s i) (a.data.toList.drop i)).map mkB) := by
  intro d
  induction d with
  | zero =>
    intro i s acc hi hs hacc
    obtain rfl : i = a.size := by omega
    rw [spec_l01Split.l0, if_neg (by omega), if_pos (by omega), if_pos (by omega), if_pos (by omega), List.drop_of_length_le (by rw [data_length]; exact Nat.le_refl _), Int.toNat_natCast, extract_slice]
    simp [cutAt]
    rfl
  | succ d ih =>
    intro i s acc hi hs hacc
    have hlt : i < a.size := by omega
    have hd : a.data.toList.drop i = a[i] :: a.data.toList.drop (i + 1) := by
      rw [List.drop_eq_getElem_cons (by rw [data_length]; exact hlt)]
      rfl
    have hb := byte_at a i hlt
    rw [spec_l01Split.l0, if_pos (by omega), if_pos (by omega), wrap_succ hlt (by omega), hd, cutAt]
    by_cases e : a[i] = c
    · have c2 : bt a i = (c.toNat : Int) := by rw [hb, e]
      have h0 : sliceL a (i + 1) (i + 1) = [] := by simp [sliceL]
      rw [if_pos c2, if_pos e, if_pos (by omega), if_pos (by omega), if_pos (by omega), if_pos (by omega), Int.toNat_natCast, Int.toNat_natCast, ih (i + 1) (i + 1) _ (by omega) (Nat.le_refl _) (by rw [List.length_append]; simp; omega), h0, extract_slice]
      simp
      rfl
    · have c2 : ¬ bt a i = (c.toNat : Int) := by
        rw [hb]
        intro h
        exact e (UInt8.toNat_inj.1 (by omega))
      rw [if_neg c2, if_neg e, ih (i + 1) s acc (by omega) (by omega) (by omega), sliceL_step a s i hs hlt]
theorem spec_l01Split.val (a : ByteArray) (c : UInt8) (ha : a.size ≤ 1048576) (k : Nat) (hk : a.size + 1 ≤ k) : spec_l01Split.f k a (c.toNat : Int) = some ((cutAt c [] a.data.toList).map mkB) := by
  refine at_rounds (spec_l01Split.mono a (c.toNat : Int)) hk ?_
  have := split_cut a c ha a.size 0 0 [] (by omega) (Nat.le_refl _) (Nat.le_refl _)
  rw [List.nil_append, List.drop_zero] at this
  unfold spec_l01Split.f
  exact this

def numR (l : List UInt8) : Int × Bool := match numL l with | some n => ((n : Int), true) | none => (0, false)
def valR (o : Option Nat) : Int × Bool := match o with | some n => ((n : Int), true) | none => (0, false)
theorem number_loop (l : List UInt8) (hl : l.length ≤ 10) : ∀ d i k (acc : Nat), i + d = l.length → d < k → acc < 10 ^ i → spec_l01Number.l0 k (mkB l) (acc : Int) (i : Nat) = some (valR (valD acc (l.drop i))) := by
  intro d
  induction d with
  | zero =>
    intro i k acc hi hk _
    obtain ⟨k, rfl⟩ : ∃ m, k = m + 1 := ⟨k - 1, by omega⟩
    obtain rfl : i = l.length := by omega
    rw [spec_l01Number.l0, mk_size, if_neg (by omega), List.drop_length]
    rfl
  | succ d ih =>
    intro i k acc hi hk ha
    obtain ⟨k, rfl⟩ : ∃ m, k = m + 1 := ⟨k - 1, by omega⟩
    have hlt : i < l.length := by omega
    have hP : (10 : Nat) ^ (i + 1) = 10 ^ i * 10 := Nat.pow_succ 10 i
    have hP2 : (10 : Nat) ^ i ≤ 10 ^ 9 := Nat.pow_le_pow_right (by decide) (by omega)
    rw [spec_l01Number.l0, mk_size, if_pos (by omega), if_pos (by omega), mk_bt l i hlt, List.drop_eq_getElem_cons hlt, valD]
    have hb : l[i].toNat < 256 := UInt8.toNat_lt _
    by_cases h1 : l[i].toNat < 48
    · rw [if_pos (by omega), if_neg (by omega)]
      rfl
    by_cases h2 : 57 < l[i].toNat
    · rw [if_neg (by omega), if_pos (by omega), if_neg (by omega)]
      rfl
    have e1 : wrap64 (wrap64 (10 * (acc : Int)) + (((l[i].toNat : Int) - 48) % 256)) = ((acc * 10 + (l[i].toNat - 48) : Nat) : Int) := by
      rw [wrap_id (n := 10 * (acc : Int)) (by omega) (by omega), wrap_id (by omega) (by omega)]
      omega
    rw [if_neg (by omega), if_neg (by omega), if_pos (by omega), e1, wrap_succ hlt (by omega)]
    exact ih (i + 1) k _ (by omega) (by omega) (by omega)
theorem spec_l01Number.val (l : List UInt8) (k : Nat) (hk : 20 ≤ k) : spec_l01Number.f k (mkB l) = some (numR l) := by
  obtain ⟨k, rfl⟩ : ∃ m, k = m + 1 := ⟨k - 1, by omega⟩
  unfold spec_l01Number.f numR numL
  cases l with
  | nil => rw [if_pos (show (mkB []).toList = [] from by rw [mk_toList]), if_pos (.inl rfl), spec_l01Number.j0, if_pos rfl]
  | cons c r =>
    have h0 : ¬ (mkB (c :: r)).toList = [] := by rw [mk_toList]; simp
    rw [if_neg h0]
    by_cases h10 : 10 < (c :: r).length
    · rw [mk_size, if_pos (by omega), if_pos (.inr (.inl h10)), spec_l01Number.j0, if_pos rfl]
    rw [mk_size, if_neg (by omega), if_pos (by simp), show bt (mkB (c :: r)) 0 = (c.toNat : Int) from mk_bt (c :: r) 0 (by simp)]
    have hloop := fun k (hk : (c :: r).length < k) => number_loop (c :: r) (by omega) (c :: r).length 0 k 0 (by omega) hk (by decide)
    rw [List.drop_zero] at hloop
    by_cases h48 : (c.toNat : Int) = 48
    · have hc : c = 48 := UInt8.toNat_inj.1 (by show c.toNat = 48; omega)
      rw [if_pos h48]
      by_cases h1 : 1 < (c :: r).length
      · rw [decide_eq_true (by omega), if_pos (.inr (.inr ⟨by rw [hc]; rfl, h1⟩)), spec_l01Number.j0, if_pos rfl]
      · rw [decide_eq_false (by omega), if_neg (fun h => by rcases h with h | h | h; exact absurd h (by simp); omega; exact h1 h.2), spec_l01Number.j0, if_neg (by decide)]
        exact hloop k (by omega)
    · have hc : ¬ (c :: r).head? = some 48 := by
        intro e
        apply h48
        have : c = 48 := by simpa using e
        rw [this]; rfl
      rw [if_neg h48, if_neg (fun h => by rcases h with h | h | h; exact absurd h (by simp); omega; exact hc h.1), spec_l01Number.j0, if_neg (by decide)]
      exact hloop k (by omega)

theorem allM_cons_none {α β : Type} (f : α → Option β) (x : α) (r : List α) (h : f x = none) : allM f (x :: r) = none := by rw [allM, h]; rfl
theorem allM_cons_some {α β : Type} (f : α → Option β) (x : α) (y : β) (r : List α) (h : f x = some y) : allM f (x :: r) = (allM f r).map fun q => y :: q := by rw [allM, h]; rfl
theorem allM_mem {α β : Type} (f : α → Option β) (l : List α) (r : List β) (h : allM f l = some r) : ∀ y ∈ r, ∃ x ∈ l, f x = some y := by
  intro y hy
  have e := allM_some f l r h
  have : some y ∈ r.map some := List.mem_map.2 ⟨y, hy, rfl⟩
  rw [← e] at this
  obtain ⟨x, hx, hf⟩ := List.mem_map.1 this
  exact ⟨x, hx, hf⟩
theorem mk_drop (l : List UInt8) (n : Nat) (h : n ≤ l.length) : (mkB l).extract n (mkB l).size = mkB (l.drop n) := by
  rw [extract_slice]
  unfold sliceL mkB
  congr 2
  show (l.drop n).take ((mkB l).size - n) = l.drop n
  rw [mk_size]
  exact List.take_of_length_le (by rw [List.length_drop]; omega)
def prR (l : List UInt8) : Int × Int × Int × Bool := match prS l with | some p => (p.f0, p.f1, p.f2, true) | none => (0, 0, 0, false)
theorem spec_l01ReadPair.val (l : List UInt8) (k : Nat) (hk : 30 ≤ k) : spec_l01ReadPair.f k (mkB l) = some (prR l) := by
  obtain ⟨k, rfl⟩ : ∃ m, k = m + 1 + 1 := ⟨k - 2, by omega⟩
  match l with
  | [] => rfl
  | [a] => rfl
  | [a, b] => rfl
  | [a, b, c] =>
    have h1 : prS [a, b, c] = none := by
      rw [prS]
      split
      · rfl
      · rfl
    unfold spec_l01ReadPair.f prR
    rw [h1, mk_size, if_pos (by simp), spec_l01ReadPair.j0, if_pos rfl]
  | a :: b :: c :: d :: r =>
    have hs : (mkB (a :: b :: c :: d :: r)).size = r.length + 4 := by rw [mk_size]; simp
    have b0 : bt (mkB (a :: b :: c :: d :: r)) 0 = (a.toNat : Int) := mk_bt _ 0 (by simp)
    have b1 : bt (mkB (a :: b :: c :: d :: r)) 1 = (b.toNat : Int) := mk_bt _ 1 (by simp)
    have b2 : bt (mkB (a :: b :: c :: d :: r)) 2 = (c.toNat : Int) := mk_bt _ 2 (by simp)
    have he : (mkB (a :: b :: c :: d :: r)).extract 3 (r.length + 4) = mkB (d :: r) := by
      have := mk_drop (a :: b :: c :: d :: r) 3 (by simp)
      rw [hs] at this
      exact this
    have hn := spec_l01Number.val (d :: r) (k + 1) (by omega)
    have key : ∀ q : Bool, spec_l01ReadPair.j0 (k + 1 + 1) (mkB (a :: b :: c :: d :: r)) q = some (if q = true then (0, 0, 0, false) else match numL (d :: r) with | some n => if n ≤ 10 then ((a.toNat : Int), (b.toNat : Int), (if c = 45 then -(n : Int) else n), true) else (0, 0, 0, false) | none => (0, 0, 0, false)) := by
      intro q
      rw [spec_l01ReadPair.j0]
      cases q with
      | true => rfl
      | false =>
        rw [if_neg (by decide), hs, if_pos (by omega), he, hn]
        simp only [Option.bind_some, Bool.false_eq_true, if_false]
        unfold numR
        cases hv : numL (d :: r) with
        | none =>
          simp only [Bool.false_eq_true, if_false]
          rw [spec_l01ReadPair.j1, if_pos rfl]
        | some n =>
          simp only [if_true]
          rw [spec_l01ReadPair.j1]
          by_cases h10 : n ≤ 10
          · rw [if_neg (by simp; omega), hs, if_pos (by omega), b0, b1, b2, if_pos h10]
            by_cases hc : c = 45
            · have hc2 : (c.toNat : Int) = 45 := by rw [hc]; rfl
              rw [if_pos hc2, if_pos (by omega), if_pos (by omega), if_pos hc, wrap_id (by omega) (by omega), IntWalk.i8_in _ (by omega)]
            · have hc2 : ¬ (c.toNat : Int) = 45 := fun h => hc (UInt8.toNat_inj.1 (show c.toNat = (45 : UInt8).toNat by have : (45 : UInt8).toNat = 45 := rfl; omega))
              rw [if_neg hc2, if_pos (by omega), if_pos (by omega), if_neg hc, IntWalk.i8_in _ (by omega)]
          · rw [if_pos (by simp; omega), if_neg h10]
    unfold spec_l01ReadPair.f prR
    rw [hs, if_neg (by omega), if_pos (by omega), b2, prS]
    by_cases hc43 : c = 43
    · have hc2 : (c.toNat : Int) = 43 := by rw [hc43]; rfl
      rw [if_pos hc2, key, if_pos (Or.inl hc43)]
      cases hv : numL (d :: r) with
      | none => rfl
      | some n =>
        simp only [Option.bind_some, Bool.false_eq_true, if_false]
        by_cases h10 : n ≤ 10
        · rw [if_pos h10, if_pos h10]
        · rw [if_neg h10, if_neg h10]
    · have hc2 : ¬ (c.toNat : Int) = 43 := fun h => hc43 (UInt8.toNat_inj.1 (show c.toNat = (43 : UInt8).toNat by have : (43 : UInt8).toNat = 43 := rfl; omega))
      rw [if_neg hc2, key]
      by_cases hc45 : c = 45
      · have hc3 : (c.toNat : Int) = 45 := by rw [hc45]; rfl
        rw [if_pos (Or.inr hc45), hc3]
        cases hv : numL (d :: r) with
        | none => rfl
        | some n =>
          simp only [Option.bind_some, bne_self_eq_false, Bool.false_eq_true, if_false]
          by_cases h10 : n ≤ 10
          · rw [if_pos h10, if_pos h10]
          · rw [if_neg h10, if_neg h10]
      · have hc3 : ¬ (c.toNat : Int) = 45 := fun h => hc45 (UInt8.toNat_inj.1 (show c.toNat = (45 : UInt8).toNat by have : (45 : UInt8).toNat = 45 := rfl; omega))
        have hq : ((c.toNat : Int) != 45) = true := bne_iff_ne.2 hc3
        rw [if_neg (show ¬ (c = 43 ∨ c = 45) from fun h => h.elim hc43 hc45), hq, if_pos rfl]
end Go.Proofs.YtkldhleiipfaaaaDoor.Q
