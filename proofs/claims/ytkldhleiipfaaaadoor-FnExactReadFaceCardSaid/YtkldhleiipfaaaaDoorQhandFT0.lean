/- FaceText: what it computes, in plain words; numbers and joined texts. -/
import Derived.Test.YtkldhleiipfaaaaDoorQlibJ
import Derived.Test.YtkldhleiipfaaaaDoorQlibDec
import Derived.Test.YtkldhleiipfaaaaDoorQspecDecimal
import Derived.Test.YtkldhleiipfaaaaDoorQimpljoinedint8
import Derived.Test.YtkldhleiipfaaaaDoorQhandValidFace
import Derived.Outline
import Derived.Lib.Hide
import Derived.BigRegion
import Derived.Deep.RegionHeld3
import Derived.Laws.BytesArg
namespace Go.Proofs.YtkldhleiipfaaaaDoor.Q
open Go.RowKit Go.Proofs.YtkldhleiipfaaaaDoorW.PrintWords Go.Proofs.YtkldhleiipfaaaaDoorW.PrintLast Go.Proofs.YtkldhleiipfaaaaDoorW.PrintMore
open Go.Proofs.YtkldhleiipfaaaaDoor.Pure
set_option linter.unusedVariables false
set_option linter.unusedSimpArgs false

def itoaB (n : Int) : ByteArray := ⟨(Lib.itoa n).toArray⟩
def blankT : ByteArray := ⟨#[32]⟩
def semiT : ByteArray := ⟨#[59]⟩
def preT {α : Type} (f : α → ByteArray) (l : List α) (k : Nat) : ByteArray := if 0 < k then joinB ((l.take k).map f) blankT ++ blankT else joinB ((l.take k).map f) blankT
theorem joinB_size_le (l : List ByteArray) (M : Nat) (h : ∀ x ∈ l, x.size ≤ M) : (joinB l blankT).size ≤ l.length * (M + 1) := by
  have := joinB_size l blankT M h (by decide)
  unfold joinB
  show ((Lib.join _ _).toArray).size ≤ _
  simpa using this
theorem blankT_size : blankT.size = 1 := rfl
theorem preT_step {α : Type} (f : α → ByteArray) (l : List α) (k : Nat) (h : k < l.length) : preT f l k ++ f l[k] = joinB ((l.take (k + 1)).map f) blankT := by
  rw [List.take_succ_eq_append_getElem h, List.map_append]
  unfold preT
  by_cases h0 : 0 < k
  · rw [if_pos h0]
    exact (joinB_snoc _ _ _ (by intro he; have := congrArg List.length he; rw [List.length_map, List.length_take] at this; simp only [List.length_nil] at this; omega)).symm
  · rw [if_neg h0]
    have : k = 0 := by omega
    subst this
    rw [List.take_zero, List.map_nil, List.nil_append]
    show joinB [] blankT ++ _ = joinB [f _] blankT
    rw [joinB_one, joinB_nil]
    exact ByteArray.empty_append
theorem decDigits_len (n : Nat) : ∀ k, n < 10 ^ (k + 1) → (Lib.decDigits n).length ≤ k + 1 := by
  intro k
  induction k generalizing n with
  | zero => intro h; rw [Lib.decDigits_one (by omega)]; simp
  | succ k ih =>
    intro h
    by_cases h1 : n < 10
    · rw [Lib.decDigits_one h1]; simp
    · have := ih (n / 10) (by rw [Nat.pow_succ] at h; omega)
      rw [Lib.decDigits, dif_neg h1, List.length_append]
      simp only [List.length_singleton]
      omega
theorem itoaB_size {n : Int} (h0 : 0 ≤ n) (h1 : n ≤ 99999) : (itoaB n).size ≤ 5 := by
  unfold itoaB
  show ((Lib.itoa n).toArray).size ≤ 5
  obtain ⟨m, rfl⟩ := Int.eq_ofNat_of_zero_le h0
  rw [Lib.itoa_nonneg]
  have := decDigits_len m 4 (by omega)
  simpa using this
theorem one_size (b : Int) : (strOfNums [b]).size = 1 := rfl
theorem two_size (a b : Int) : (strOfNums [a, b]).size = 2 := rfl
theorem num_byte (n : Int) (h0 : 0 ≤ n) (h1 : n < 10) : strOfNums [(wrap64 (48 + (Int.tmod n 10))) % 256] = ⟨#[UInt8.ofNat (48 + n.toNat)]⟩ := by
  have hm : Int.tmod n 10 = n := Int.tmod_eq_of_lt h0 h1
  rw [hm, wrap_id (by omega) (by omega)]
  have h2 : (48 + n) % 256 = 48 + n := Int.emod_eq_of_lt (by omega) (by omega)
  rw [h2]
  unfold strOfNums
  congr 1
  have h3 : (48 + n).toNat = 48 + n.toNat := by omega
  simp only [List.map_cons, List.map_nil]
  rw [h3]
  try rfl
theorem spec_Decimal.val : ∀ (k : Nat) (n : Int), 0 ≤ n → n < 10 ^ (k + 1) → k < 18 → spec_Decimal.f (k + 1) n = some (itoaB n) := by
  intro k
  induction k with
  | zero =>
    intro n h0 h1 _
    simp only [spec_Decimal.f]
    rw [if_pos (by omega), num_byte n h0 (by omega)]
    obtain ⟨m, rfl⟩ := Int.eq_ofNat_of_zero_le h0
    unfold itoaB
    rw [Lib.itoa_nonneg, Lib.decDigits_one (by omega)]
    rfl
  | succ k ih =>
    intro n h0 h1 hk
    obtain ⟨m, rfl⟩ := Int.eq_ofNat_of_zero_le h0
    rw [show spec_Decimal.f (k + 1 + 1) (m : Int) = _ from rfl]
    unfold spec_Decimal.f
    by_cases h9 : m < 10
    · rw [if_pos (by omega), num_byte _ h0 (by omega)]
      unfold itoaB
      rw [Lib.itoa_nonneg, Lib.decDigits_one h9]
      rfl
    · rw [if_neg (by omega)]
      have hd : wrap64 (Int.tdiv (m : Int) 10) = ((m / 10 : Nat) : Int) := by
        rw [show Int.tdiv (m : Int) 10 = ((m / 10 : Nat) : Int) from by rw [Int.tdiv_eq_ediv_of_nonneg (by omega)]; rfl]
        have hp : m < 10 ^ 19 := Nat.lt_of_lt_of_le (show m < 10 ^ (k + 1 + 1) by exact_mod_cast h1) (Nat.pow_le_pow_right (by decide) (by omega))
        exact wrap_id (by omega) (by omega)
      have hb : wrap64 (48 + Int.tmod (m : Int) 10) % 256 = ((48 + m % 10 : Nat) : Int) := by
        have h2 : Int.tmod (m : Int) 10 = ((m % 10 : Nat) : Int) := by rw [Int.tmod_eq_emod_of_nonneg (by omega)]; rfl
        rw [h2, wrap_id (by omega) (by omega)]
        omega
      have hp : ((m / 10 : Nat) : Int) < 10 ^ (k + 1) := by
        have h3 : m < 10 ^ (k + 1) * 10 := by
          have : (m : Int) < ((10 ^ (k + 1 + 1) : Nat) : Int) := by push_cast; exact h1
          rw [Nat.pow_succ] at this
          exact_mod_cast this
        have h4 : m / 10 < 10 ^ (k + 1) := Nat.div_lt_of_lt_mul (by omega)
        exact_mod_cast h4
      rw [hd, ih _ (by omega) hp (by omega), hb]
      simp only [Option.bind_some]
      have hs : (itoaB ((m / 10 : Nat) : Int)).size ≤ 18 := by
        unfold itoaB
        rw [Lib.itoa_nonneg]
        have := decDigits_len (m / 10) k (by exact_mod_cast hp)
        show ((Lib.decDigits (m / 10)).toArray).size ≤ 18
        simp
        omega
      rw [one_size, if_pos (by omega)]
      congr 1
      unfold itoaB
      rw [Lib.itoa_nonneg, Lib.itoa_nonneg, app_list]
      have e : Lib.decDigits m = Lib.decDigits (m / 10) ++ [UInt8.ofNat (48 + m % 10)] := by
        rw [Lib.decDigits, dif_neg h9]
      rw [e]
      congr 1

theorem itoaB_small {n : Int} (h0 : 0 ≤ n) (h1 : n ≤ 99) : (itoaB n).size ≤ 2 := by
  unfold itoaB
  show ((Lib.itoa n).toArray).size ≤ 2
  obtain ⟨m, rfl⟩ := Int.eq_ofNat_of_zero_le h0
  rw [Lib.itoa_nonneg]
  have := decDigits_len m 1 (by omega)
  simpa using this
/-- How much wider the gap is, with its sign. -/
def byT (n : Int) : ByteArray := (if n < 0 then (⟨#[45]⟩ : ByteArray) else ⟨#[43]⟩) ++ itoaB (if n < 0 then -n else n)
def prT (p : S48) : ByteArray := strOfNums [p.f0, p.f1] ++ byT p.f2
def midT (sp gp : Int) : ByteArray := (((semiT ++ itoaB sp) ++ semiT) ++ itoaB gp) ++ semiT
def faceT (ws : List Int) (sp gp : Int) (l : List S48) : ByteArray := (joinB (ws.map itoaB) blankT ++ midT sp gp) ++ joinB (l.map prT) blankT
theorem byT_neg {n : Int} (h : n < 0) (h2 : -1000 ≤ n) : itoaB n = byT n := by
  unfold byT
  rw [if_pos h, if_pos h]
  unfold itoaB
  obtain ⟨m, rfl⟩ : ∃ m : Nat, n = -((m + 1 : Nat) : Int) := ⟨(-n - 1).toNat, by omega⟩
  rw [Int.neg_neg, Lib.itoa_nonneg, app_list]
  congr 1
  have e : Lib.itoa (-((m + 1 : Nat) : Int)) = 45 :: Lib.decDigits (m + 1) := Lib.itoa_neg (m + 1) (by omega)
  rw [e]
  simp
theorem byT_pos {n : Int} (h : 0 < n) : (⟨#[43]⟩ : ByteArray) ++ itoaB n = byT n := by
  unfold byT
  rw [if_neg (by omega), if_neg (by omega)]
theorem byT_size {n : Int} (h0 : -10 ≤ n) (h1 : n ≤ 10) : (byT n).size ≤ 3 := by
  unfold byT
  rw [ByteArray.size_append]
  have h2 : (itoaB (if n < 0 then -n else n)).size ≤ 2 := by split <;> exact itoaB_small (by omega) (by omega)
  have h3 : (if n < 0 then (⟨#[45]⟩ : ByteArray) else ⟨#[43]⟩).size = 1 := by split <;> rfl
  omega
theorem two_sz (a b : Int) : (strOfNums [a, b]).size = 2 := rfl
theorem dec_val (n : Int) (h0 : -9223372036854775808 ≤ n) (h1 : n ≤ 9223372036854775807) : impl_decimal.f n = some (itoaB n) := by
  unfold impl_decimal.f strconv_FormatInt_38.f
  rw [if_pos ⟨rfl, h0, h1⟩]
  rfl
theorem joined_val (ws : List Int) (hx : ws.length = 26) (h : ∀ x ∈ ws, 0 ≤ x ∧ x ≤ 40) : impl_joined_int8.f 30 ws = some (joinB (ws.map itoaB) blankT) := by
  unfold impl_joined_int8.f
  have key : ∀ d i k, i + d = 26 → d < k → impl_joined_int8.l0 k ((ws.take i).map itoaB) ws (ws.length : Int) (i : Nat) = some (joinB (ws.map itoaB) blankT) := by
    intro d
    induction d with
    | zero =>
      intro i k hi hk
      obtain ⟨k, rfl⟩ : ∃ m, k = m + 1 := ⟨k - 1, by omega⟩
      have hJ : joinFine (ws.map itoaB) := ⟨by rw [List.length_map]; omega, fun y hy => by
        obtain ⟨z, hz, rfl⟩ := List.mem_map.1 hy
        have := itoaB_small (h z hz).1 (by have := (h z hz).2; omega)
        omega⟩
      rw [impl_joined_int8.l0, if_neg (by omega), List.take_of_length_le (by omega)]
      unfold strings_Join.f
      rw [if_pos ⟨hJ, by decide⟩]
      rfl
    | succ d ih =>
      intro i k hi hk
      obtain ⟨k, rfl⟩ : ∃ m, k = m + 1 := ⟨k - 1, by omega⟩
      have hlt : i < ws.length := by omega
      have hw := h _ (List.getElem_mem hlt)
      rw [impl_joined_int8.l0, if_pos (by omega), if_pos (by omega), if_pos (by omega), Pure.rd_get ws i hlt, wrap_id (by omega) (by omega), dec_val _ (by omega) (by omega)]
      simp only [Option.bind_some]
      rw [if_pos (by simp; omega), wrap_succ (i := i) (n := ws.length) hlt (by omega)]
      have e : (ws.take i).map itoaB ++ [itoaB ws[i]] = (ws.take (i + 1)).map itoaB := by rw [List.take_succ_eq_append_getElem hlt, List.map_append]; rfl
      rw [e]
      exact ih (i + 1) k (by omega) (by omega)
  exact key 26 0 30 (by omega) (by omega)
theorem preT_sz {α : Type} (f : α → ByteArray) (l : List α) (k m n : Nat) (hl : l.length ≤ n) (h : ∀ x ∈ l, (f x).size ≤ m) : (joinB ((l.take k).map f) blankT).size ≤ n * (m + 1) ∧ (preT f l k).size ≤ n * (m + 1) + 1 := by
  have h1 := joinB_size_le ((l.take k).map f) m (fun x hx => by
    obtain ⟨y, hy, rfl⟩ := List.mem_map.1 hx
    exact h y (List.mem_of_mem_take hy))
  have h2 : ((l.take k).map f).length ≤ n := by simp; omega
  have h3 : (joinB ((l.take k).map f) blankT).size ≤ n * (m + 1) := Nat.le_trans h1 (Nat.mul_le_mul_right _ h2)
  refine ⟨h3, ?_⟩
  unfold preT
  split
  · rw [ByteArray.size_append, blankT_size]; omega
  · omega
/-- What a valid face keeps to. -/
theorem valid_facts {ws : List Int} (hx : ws.length = 26) {sp gp : Int} {l : List S48} (h : validB ws sp gp l = true) : (∀ x ∈ ws, 1 ≤ x ∧ x ≤ 40) ∧ (1 ≤ sp ∧ sp ≤ 40) ∧ (0 ≤ gp ∧ gp ≤ 10) ∧ l.length ≤ 12 ∧ ∀ x ∈ l, -10 ≤ x.f2 ∧ x.f2 ≤ 10 ∧ x.f2 ≠ 0 := by
  unfold validB faceB wideB pairsB at h
  simp only [Bool.and_eq_true, decide_eq_true_eq, List.all_eq_true, List.mem_range] at h
  obtain ⟨⟨⟨⟨hw, hp⟩, hs⟩, hg⟩, hl⟩ := h
  unfold inB at hw hs hg
  simp only [Bool.and_eq_true, decide_eq_true_eq] at hw hs hg
  refine ⟨fun x hxm => ?_, hs, hg, by omega, fun x hxm => ?_⟩
  · obtain ⟨i, hi, rfl⟩ := List.getElem_of_mem hxm
    have h1 := hw i (by omega)
    rw [Pure.rd_get ws i hi] at h1
    exact h1
  · obtain ⟨i, hi, rfl⟩ := List.getElem_of_mem hxm
    have h1 := hp i hi
    unfold pairB inB at h1
    rw [rd46_get l i hi] at h1
    simp only [Bool.and_eq_true, decide_eq_true_eq, Bool.not_eq_true', decide_eq_false_iff_not] at h1
    obtain ⟨⟨⟨⟨_, h2⟩, h3⟩, _⟩, _⟩ := h1
    exact ⟨h2.1, h2.2, h3⟩
end Go.Proofs.YtkldhleiipfaaaaDoor.Q
