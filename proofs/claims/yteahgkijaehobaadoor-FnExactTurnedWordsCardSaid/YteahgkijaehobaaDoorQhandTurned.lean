/- slices.Reverse over a row of bytes, and impl.turned over it: a text turned upside down. -/
import Derived.Test.YteahgkijaehobaaDoorQlib
import Derived.Test.YteahgkijaehobaaDoorBase
import Derived.Outline
import Derived.Lib.Hide
import Derived.BigRegion
namespace Go.Proofs.YteahgkijaehobaaDoor.Q
open Go.RowKit Go.Proofs.YteahgkijaehobaaDoorW.PrintWords Go.Proofs.YteahgkijaehobaaDoorW.PrintLast Go.Proofs.YteahgkijaehobaaDoorW.PrintMore
open Go.Proofs.YteahgkijaehobaaDoor.Bytes
set_option linter.unusedVariables false

/-- The first i places and the last i ones have been exchanged. -/
def revTo (xs : List Int) (i : Nat) : List Int := (List.range xs.length).map fun j => if j < i ∨ xs.length - i ≤ j then xs.getD (xs.length - 1 - j) 0 else xs.getD j 0
theorem revTo_len (xs : List Int) (i : Nat) : (revTo xs i).length = xs.length := by simp [revTo]
theorem revTo_get (xs : List Int) (i j : Nat) (h : j < xs.length) : (revTo xs i)[j]? = some (if j < i ∨ xs.length - i ≤ j then xs.getD (xs.length - 1 - j) 0 else xs.getD j 0) := by
  simp [revTo, h]
theorem revTo_zero (xs : List Int) : revTo xs 0 = xs := by
  apply List.ext_getElem?
  intro j
  by_cases hj : j < xs.length
  · rw [revTo_get xs 0 j hj, if_neg (by omega)]
    simp [List.getD_eq_getElem?_getD, hj]
  · rw [List.getElem?_eq_none (by rw [revTo_len]; omega), List.getElem?_eq_none (by omega)]
theorem revTo_end (xs : List Int) (i : Nat) (h : xs.length ≤ 2 * i + 1) : revTo xs i = xs.reverse := by
  apply List.ext_getElem?
  intro j
  by_cases hj : j < xs.length
  · rw [revTo_get xs i j hj, List.getElem?_reverse hj]
    have hk : xs.length - 1 - j < xs.length := by omega
    rw [List.getD_eq_getElem?_getD, List.getElem?_eq_getElem hk]
    by_cases hm : j < i ∨ xs.length - i ≤ j
    · rw [if_pos hm]; rfl
    · rw [if_neg hm]
      have : xs.length - 1 - j = j := by omega
      simp only [this]
      simp [List.getD_eq_getElem?_getD, hj]
  · rw [List.getElem?_eq_none (by rw [revTo_len]; omega), List.getElem?_eq_none (by simp; omega)]
theorem revTo_step (xs : List Int) (i j : Nat) (hij : i < j) (hj : i + j + 1 = xs.length) : revTo xs (i + 1) = ((revTo xs i).set i ((revTo xs i).getD j 0)).set j ((revTo xs i).getD i 0) := by
  apply List.ext_getElem?
  intro m
  by_cases hm : m < xs.length
  · have gi : (revTo xs i).getD i 0 = xs.getD i 0 := by rw [List.getD_eq_getElem?_getD, revTo_get xs i i (by omega), if_neg (by omega)]; rfl
    have gj : (revTo xs i).getD j 0 = xs.getD j 0 := by rw [List.getD_eq_getElem?_getD, revTo_get xs i j (by omega), if_neg (by omega)]; rfl
    rw [gi, gj, revTo_get xs (i + 1) m hm]
    by_cases h1 : m = j
    · subst h1
      rw [List.getElem?_set_self (by rw [List.length_set, revTo_len]; omega), if_pos (by omega), show xs.length - 1 - m = i by omega]
    · rw [List.getElem?_set_ne (Ne.symm h1)]
      by_cases h2 : m = i
      · subst h2
        rw [List.getElem?_set_self (by rw [revTo_len]; omega), if_pos (by omega), show xs.length - 1 - m = j by omega]
      · rw [List.getElem?_set_ne (Ne.symm h2), revTo_get xs i m hm]
        by_cases h3 : m < i ∨ xs.length - i ≤ m
        · rw [if_pos h3, if_pos (by omega)]
        · rw [if_neg h3, if_neg (by omega)]
  · rw [List.getElem?_eq_none (by rw [revTo_len]; omega), List.getElem?_eq_none (by rw [List.length_set, List.length_set, revTo_len]; omega)]

set_option maxHeartbeats 2000000 in
theorem reverse_bytes (g cap n : Nat) (xs : List Int) (w : World) (hB : BRow 5 w g cap xs) (hm : xs.length ≤ 9223372036854775807) (hn : xs.length = n) :
    Calls Tryd.prog 94 #[.slice (some ⟨g, 0, none⟩) n cap] w fun e w' => e = .returned (.tuple #[]) ∧ BRow 5 w' g cap xs.reverse ∧ OnlyAt g w w' := by
  subst hn
  go_enter Tryd.func94, Tryd.ntmps94
  go_wp2
  go_loopw [2, 3] (fun i j wr => ∃ k : Nat, 2 * k ≤ xs.length + 1 ∧ i = .int .i64 k ∧ j = .int .i64 ((xs.length : Int) - 1 - k) ∧ BRow 5 wr g cap (revTo xs k) ∧ OnlyAt g w wr) (fun i j _ => (intOf j + 1 - intOf i).toNat)
  case atStart => exact ⟨0, by omega, rfl, by go_num, by rw [revTo_zero]; exact hB, OnlyAt.refl _ _⟩
  case round =>
    obtain ⟨k, hk, rfl, rfl, hR, hO⟩ := hrel
    by_cases hlt : 2 * k + 1 < xs.length
    · obtain ⟨j, hj⟩ : ∃ j : Nat, k + j + 1 = xs.length := ⟨xs.length - 1 - k, by omega⟩
      have hkj : k < j := by omega
      have ej : ((xs.length : Int) - 1 - k) = (j : Int) := by omega
      rw [ej]
      have c1 := hR.cell k (by rw [revTo_len]; omega)
      have c2 := hR.cell j (by rw [revTo_len]; omega)
      have f1 := hR.frozen k (by rw [revTo_len]; omega)
      have f2 := hR.frozen j (by rw [revTo_len]; omega)
      have hjl : j < xs.length := by omega
      obtain ⟨x, hx⟩ : ∃ x, x = (revTo xs k).getD k 0 := ⟨_, rfl⟩
      obtain ⟨y, hy⟩ : ∃ y, y = (revTo xs k).getD j 0 := ⟨_, rfl⟩
      rw [← hx] at c1
      rw [← hy] at c2
      have HX := Lib.hid hx
      have HY := Lib.hid hy
      have HJ := Lib.hid hj
      have EJ := Lib.hid ej
      clear hx hy hj ej
      go_wp2
      go_region
      go_wp2
      go_roundw
      case rel =>
        refine ⟨k + 1, by have := HJ.out; omega, by go_num, by rw [show (j : Int) - 1 = (xs.length : Int) - 1 - ((k + 1 : Nat) : Int) from by have := HJ.out; omega], ?_, ((hO.set k _).set j _).drew⟩
        rw [revTo_step xs k j hkj (by have := HJ.out; omega), ← HX.out, ← HY.out]
        exact ((hR.set k (by rw [revTo_len]; omega) y).set j (by rw [List.length_set, revTo_len]; omega) x).drew
      case measure => simp [intOf]; have := HJ.out; omega
    · have hlt' : ¬ (k : Int) < (xs.length : Int) - 1 - k := by omega
      go_wp2
      go_end0
      exact ⟨rfl, by rw [← revTo_end xs k (by omega)]; exact hR, hO⟩

/-- A letter, or a blank, turned. -/
def turnL (x : Int) : Option Int := if x = 32 ∨ x = 72 ∨ x = 73 ∨ x = 78 ∨ x = 79 ∨ x = 83 ∨ x = 88 ∨ x = 90 then some x else if x = 77 then some 87 else if x = 87 then some 77 else none
def fromS : ByteArray := ⟨#[32, 72, 73, 78, 79, 83, 88, 90, 77, 87]⟩
def toS : ByteArray := ⟨#[32, 72, 73, 78, 79, 83, 88, 90, 87, 77]⟩
def idxS (x : Int) : Int := Lib.indexByte fromS.data.toList x.toNat.toUInt8
def turnOk (n : Nat) : Bool := match turnL (n : Int) with
  | none => decide (idxS n < 0)
  | some v => decide (0 ≤ idxS n) && decide (idxS n < 10) && decide (bt toS (idxS n) = v)
theorem turn_all : ∀ n : Nat, n < 256 → turnOk n = true := by decide +kernel
theorem turn_none {x : Int} (h0 : 0 ≤ x) (h1 : x ≤ 255) (h : turnL x = none) : idxS x < 0 := by
  obtain ⟨n, rfl⟩ := Int.eq_ofNat_of_zero_le h0
  have := turn_all n (by omega)
  unfold turnOk at this
  rw [h] at this
  simpa using this
theorem turn_some {x v : Int} (h0 : 0 ≤ x) (h1 : x ≤ 255) (h : turnL x = some v) : 0 ≤ idxS x ∧ idxS x < 10 ∧ bt toS (idxS x) = v := by
  obtain ⟨n, rfl⟩ := Int.eq_ofNat_of_zero_le h0
  have := turn_all n (by omega)
  unfold turnOk at this
  rw [h] at this
  simp only [Bool.and_eq_true, decide_eq_true_eq] at this
  exact ⟨this.1.1, this.1.2, this.2⟩

/-- The first i numbers have been turned. -/
def turnTo (xs : List Int) (i : Nat) : List Int := (List.range xs.length).map fun j => if j < i then (turnL (xs.getD j 0)).getD 0 else xs.getD j 0
def turnFine (xs : List Int) (i : Nat) : Bool := (List.range i).all fun j => (turnL (xs.getD j 0)).isSome
theorem turnTo_len (xs : List Int) (i : Nat) : (turnTo xs i).length = xs.length := by simp [turnTo]
theorem turnTo_here (xs : List Int) (i : Nat) (h : i < xs.length) : (turnTo xs i).getD i 0 = xs.getD i 0 := by
  simp [turnTo, List.getD_eq_getElem?_getD, h]
theorem turnTo_zero (xs : List Int) : turnTo xs 0 = xs := by
  apply List.ext_getElem?
  intro j
  by_cases hj : j < xs.length
  · simp [turnTo, hj]
  · rw [List.getElem?_eq_none (by rw [turnTo_len]; omega), List.getElem?_eq_none (by omega)]
theorem turnTo_step (xs : List Int) (i : Nat) (h : i < xs.length) (v : Int) (hv : turnL (xs.getD i 0) = some v) : turnTo xs (i + 1) = (turnTo xs i).set i v := by
  apply List.ext_getElem?
  intro j
  by_cases hj : j < xs.length
  · by_cases hji : i = j
    · subst hji
      rw [List.getElem?_set_self (by rw [turnTo_len]; exact h)]
      simp only [turnTo, List.getElem?_map, List.getElem?_range hj, Option.map_some]
      rw [if_pos (by omega), hv]; rfl
    · rw [List.getElem?_set_ne hji]
      simp only [turnTo, List.getElem?_map, List.getElem?_range hj, Option.map_some]
      by_cases h1 : j < i
      · rw [if_pos h1, if_pos (by omega)]
      · rw [if_neg h1, if_neg (by omega)]
  · rw [List.getElem?_eq_none (by rw [turnTo_len]; omega), List.getElem?_eq_none (by rw [List.length_set, turnTo_len]; omega)]
theorem turnFine_step (xs : List Int) (i : Nat) : turnFine xs (i + 1) = (turnFine xs i && (turnL (xs.getD i 0)).isSome) := by
  simp [turnFine, List.range_succ]
theorem turnFine_not (xs : List Int) (i n : Nat) (hi : i < n) (h : turnL (xs.getD i 0) = none) : turnFine xs n = false := by
  simp only [turnFine, List.all_eq_false]
  exact ⟨i, List.mem_range.2 hi, by rw [h]; simp⟩
def turnedV (a : ByteArray) : ByteArray × Bool := if turnFine (bytesOf a).reverse a.size = true then (strOfNums (turnTo (bytesOf a).reverse a.size), true) else (⟨#[]⟩, false)
def impl_turned.f (a : ByteArray) : Option (ByteArray × Bool) := if a.size ≤ 9223372036854775807 then some (turnedV a) else none
theorem rev_range (a : ByteArray) (i : Nat) (h : i < a.size) : 0 ≤ (bytesOf a).reverse.getD i 0 ∧ (bytesOf a).reverse.getD i 0 ≤ 255 := by
  have hl : (bytesOf a).length = a.size := bytesOf_length a
  rw [List.getD_eq_getElem?_getD, List.getElem?_reverse (by omega), bytesOf_get a _ (by omega)]
  exact bt_range _ _

set_option maxHeartbeats 2000000 in
theorem impl_turned.calls (a0 r1 : ByteArray) (r2 : Bool) (w : World) (h : impl_turned.f a0 = some (r1, r2)) :
    Calls Tryd.prog 53 #[.string a0] w fun e w' => e = .returned (.tuple #[.string r1, .bool r2]) ∧ Below w.heap.size w w' := by
  unfold impl_turned.f at h
  by_cases hs : a0.size ≤ 9223372036854775807
  rotate_left
  · rw [if_neg hs] at h; cases h
  rw [if_pos hs] at h
  have h := Option.some.inj h
  unfold turnedV at h
  have hcv := fun W => Lib.run_convert_string_bytes (P := Tryd.prog) W 9 62 5 a0 (u := .string) Tryd.underlying9 Tryd.underlying62 Tryd.underlying5
  obtain ⟨xs, hxs⟩ : ∃ xs, xs = bytesOf a0 := ⟨_, rfl⟩
  have hl : a0.size = xs.length := by rw [hxs, bytesOf_length]
  have hM := made w 5 a0 (grownCap_ge w a0.size 0 _)
  have hb0 := below_bytes w 5 a0
  have hrg : ∀ i, i < a0.size → 0 ≤ (bytesOf a0).reverse.getD i 0 ∧ (bytesOf a0).reverse.getD i 0 ≤ 255 := rev_range a0
  rw [← hxs] at hM h hrg
  have hl' : xs.length = a0.size := hl.symm
  have HS := Lib.hid hxs
  have HRG := Lib.hid hrg
  have KR := Lib.hid (fun W (hB : BRow 5 W w.heap.size (grownCap w a0.size 0 5) xs) => reverse_bytes w.heap.size (grownCap w a0.size 0 5) a0.size xs W hB (by omega) hl')
  have HL := Lib.hid hl
  clear hxs hrg hl hl'
  go_enter Tryd.func53, Tryd.ntmps53
  go_wp2_with fail
  (refine (KR.out _ hM).mono ?_); rintro e w1 ⟨rfl, hR, hO⟩
  have hb1 := hO.below hb0 (Nat.le_refl _)
  clear hM hO hb0
  go_wp2_with fail
  go_loopw [14] (fun i wr => ∃ k : Nat, k ≤ a0.size ∧ i = .int .i64 k ∧ BRow 5 wr w.heap.size (grownCap w a0.size 0 5) (turnTo xs.reverse k) ∧ Below w.heap.size w wr ∧ turnFine xs.reverse k = true) (fun i _ => a0.size - (intOf i).toNat)
  case atStart => exact ⟨0, Nat.zero_le _, rfl, by rw [turnTo_zero]; exact hR, hb1, by simp [turnFine]⟩
  case round =>
    obtain ⟨k, hk, rfl, hB, hb, hf⟩ := hrel
    by_cases hlt : k < a0.size
    · have hkl : k < xs.reverse.length := by rw [List.length_reverse]; have := HL.out; omega
      have hx := hB.cell k (by rw [turnTo_len]; exact hkl)
      rw [turnTo_here xs.reverse k hkl] at hx
      have hz := hB.frozen k (by rw [turnTo_len]; exact hkl)
      have hr := HRG.out k hlt
      obtain ⟨x, hxx⟩ : ∃ x, x = xs.reverse.getD k 0 := ⟨_, rfl⟩
      rw [← hxx] at hx hr
      have HF := Lib.hid hf
      have HX := Lib.hid hxx
      clear hf hxx
      have KI := Lib.hid (fun W => strings_IndexByte.calls fromS x (idxS x) W rfl)
      cases ht : turnL x with
      | none =>
        have hn := turn_none hr.1 hr.2 ht
        have hno : turnFine xs.reverse a0.size = false := turnFine_not _ k _ hlt (by rw [← HX.out]; exact ht)
        rw [if_neg (by rw [hno]; simp)] at h
        simp only [Prod.mk.injEq] at h
        obtain ⟨rfl, rfl⟩ := h
        clear hno ht
        go_wp2_with fail
        (refine (KI.out _).mono ?_); rintro e w2 ⟨rfl, hb2⟩
        go_wp2
        go_ret2
        exact ⟨rfl, below_then hb hb.size hb2⟩
      | some v =>
        obtain ⟨i0, i1, iv⟩ := turn_some hr.1 hr.2 ht
        obtain ⟨ix, hix⟩ := Int.eq_ofNat_of_zero_le i0
        rw [hix] at KI iv i1
        have hbt := bt_at toS ix
        simp only [Int.toNat_natCast] at hbt
        rw [iv] at hbt
        have HT := Lib.hid ht
        clear ht hix iv i0
        go_wp2_with fail
        (refine (KI.out _).mono ?_); rintro e w2 ⟨rfl, hb2⟩
        have hB2 := hB.below hb2
        have hz2 := hB2.frozen k (by rw [turnTo_len]; exact hkl)
        have hx2 := hB2.cell k (by rw [turnTo_len]; exact hkl)
        rw [turnTo_here xs.reverse k hkl, ← HX.out] at hx2
        have hb3 := below_then hb hb.size hb2
        have ix10 : ix < 10 := by omega
        have hix : ix < toS.size := ix10
        have HE := Lib.hid (hbt hix)
        clear hx hz
        go_wp2
        go_roundw
        case rel => exact ⟨k + 1, by omega, by go_num, by rw [turnTo_step xs.reverse k hkl v (by rw [← HX.out]; exact HT.out)]; rw [← HE.out]; exact hB2.set k (by rw [turnTo_len]; exact hkl) _, hb3.setCell (Nat.le_refl _) _, by rw [turnFine_step, HF.out, ← HX.out, HT.out]; rfl⟩
        case measure => simp [intOf]; omega
    · obtain rfl : k = a0.size := by omega
      rw [if_pos hf] at h
      simp only [Prod.mk.injEq] at h
      obtain ⟨rfl, rfl⟩ := h
      have hstr := hB.string (P := Tryd.prog) (src := 62) Tryd.underlying62 Tryd.underlying5 Tryd.underlying9 (grownCap w a0.size 0 5) a0.size (by rw [turnTo_len, List.length_reverse, HL.out])
      clear hf
      go_wp2
      go_ret2
      exact ⟨rfl, hb⟩
end Go.Proofs.YteahgkijaehobaaDoor.Q
