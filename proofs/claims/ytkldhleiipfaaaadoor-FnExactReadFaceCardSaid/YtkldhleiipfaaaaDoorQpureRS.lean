/- Words told and read again: cutting at a byte undoes joining; a number's digits are read again; fields of words joined by blanks. -/
import Derived.Lib.Join
import Derived.Lib.ParseIntB
import Derived.Lib.ParseIntBCases
import Derived.Lib.ItoaNum
import Derived.Lib.FieldsU
import Derived.Lib.Fields
import Derived.Lib.TrimAscii
import Derived.Lib.MapLaws
namespace Go.Proofs.YtkldhleiipfaaaaDoor.Pure
open Go.Lib
set_option linter.unusedVariables false
set_option linter.unusedSimpArgs false

/-- A list, cut at each c; 'cur': what has been read of the piece under way. -/
def cutAt (c : UInt8) : List UInt8 → List UInt8 → List (List UInt8)
  | cur, [] => [cur]
  | cur, b :: t => if b = c then cur :: cutAt c [] t else cutAt c (cur ++ [b]) t
theorem cutAt_none (c : UInt8) : ∀ (t cur : List UInt8), c ∉ t → cutAt c cur t = [cur ++ t] := by
  intro t
  induction t with
  | nil => intro cur _; simp [cutAt]
  | cons b t ih =>
    intro cur h
    rw [List.mem_cons, not_or] at h
    rw [cutAt, if_neg (fun e => h.1 e.symm), ih _ h.2, List.append_assoc]
    rfl
theorem cutAt_hit (c : UInt8) (t : List UInt8) : ∀ (a cur : List UInt8), c ∉ a → cutAt c cur (a ++ c :: t) = (cur ++ a) :: cutAt c [] t := by
  intro a
  induction a with
  | nil => intro cur _; simp [cutAt]
  | cons b a ih =>
    intro cur h
    rw [List.mem_cons, not_or] at h
    rw [List.cons_append, cutAt, if_neg (fun e => h.1 e.symm), ih _ h.2, List.append_assoc]
    rfl
theorem cutAt_len (c : UInt8) : ∀ (t cur : List UInt8), 1 ≤ (cutAt c cur t).length ∧ (cutAt c cur t).length ≤ t.length + 1 := by
  intro t
  induction t with
  | nil => intro cur; simp [cutAt]
  | cons b t ih =>
    intro cur
    rw [cutAt]
    split
    · have := ih []
      simp only [List.length_cons]; omega
    · have := ih (cur ++ [b])
      simp only [List.length_cons]; omega
theorem cutAt_mem (c : UInt8) : ∀ (t cur x : List UInt8), x ∈ cutAt c cur t → x.length ≤ cur.length + t.length := by
  intro t
  induction t with
  | nil => intro cur x h; simp [cutAt] at h; subst h; simp
  | cons b t ih =>
    intro cur x h
    rw [cutAt] at h
    split at h
    · rcases List.mem_cons.1 h with rfl | h
      · omega
      · have := ih [] x h
        simp at this ⊢; omega
    · have := ih _ x h
      simp at this ⊢; omega
theorem join_cons2 (x y : List UInt8) (r : List (List UInt8)) (sep : List UInt8) : Lib.join (x :: y :: r) sep = x ++ (sep ++ Lib.join (y :: r) sep) := by
  rw [join_cons, join_cons]
  simp [joinTail, List.append_assoc]
theorem cutAt_join (c : UInt8) : ∀ ws : List (List UInt8), ws ≠ [] → (∀ w ∈ ws, c ∉ w) → cutAt c [] (Lib.join ws [c]) = ws := by
  intro ws
  induction ws with
  | nil => intro h; exact absurd rfl h
  | cons x r ih =>
    intro _ h
    cases r with
    | nil => rw [join_one, cutAt_none c x [] (h x (List.mem_cons_self ..))]; rfl
    | cons y r =>
      rw [join_cons2]
      show cutAt c [] (x ++ c :: Lib.join (y :: r) [c]) = _
      rw [cutAt_hit c _ x [] (h x (List.mem_cons_self ..)), ih (by simp) (fun w hw => h w (List.mem_cons_of_mem _ hw))]
      rfl
theorem join_cutAt (c : UInt8) : ∀ (l cur : List UInt8), Lib.join (cutAt c cur l) [c] = cur ++ l := by
  intro l
  induction l with
  | nil => intro cur; rw [cutAt, join_one, List.append_nil]
  | cons b t ih =>
    intro cur
    rw [cutAt]
    split
    · rename_i e
      subst e
      have h1 := cutAt_len b t []
      have h2 := ih []
      cases hc : cutAt b [] t with
      | nil => rw [hc] at h1; simp at h1
      | cons y r =>
        rw [join_cons2, ← hc, h2]
        rfl
    · rw [ih, List.append_assoc]
      rfl

/-- A number that digits tell. -/
def valD : Nat → List UInt8 → Option Nat
  | acc, [] => some acc
  | acc, c :: r => if 48 ≤ c.toNat ∧ c.toNat ≤ 57 then valD (acc * 10 + (c.toNat - 48)) r else none
theorem valD_snoc (d : UInt8) : ∀ (l : List UInt8) (acc : Nat), valD acc (l ++ [d]) = (valD acc l).bind fun v => if 48 ≤ d.toNat ∧ d.toNat ≤ 57 then some (v * 10 + (d.toNat - 48)) else none := by
  intro l
  induction l with
  | nil => intro acc; simp [valD]
  | cons b l ih =>
    intro acc
    rw [List.cons_append, valD, valD]
    split
    · exact ih _
    · rfl
theorem valD_ge : ∀ (l : List UInt8) (acc v : Nat), valD acc l = some v → acc ≤ v := by
  intro l
  induction l with
  | nil => intro acc v h; rw [valD] at h; cases h; exact Nat.le_refl _
  | cons b l ih =>
    intro acc v h
    rw [valD] at h
    split at h
    · have := ih _ _ h; omega
    · cases h
theorem digit_nat (k : Nat) (h : k < 10) : (UInt8.ofNat (48 + k)).toNat = 48 + k := by
  rw [UInt8.toNat_ofNat']
  omega
theorem dec_val (n : Nat) : valD 0 (decDigits n) = some n := by
  induction n using Nat.strongRecOn with
  | _ n ih =>
    by_cases h : n < 10
    · rw [decDigits_one h]
      have := digit_nat n h
      simp only [valD]
      rw [if_pos (by omega), this]
      congr 1
      omega
    · rw [decDigits, dif_neg h, valD_snoc, ih (n / 10) (by omega), Option.bind_some, digit_nat _ (by omega), if_pos (by omega)]
      congr 1
      omega
theorem dec_ne (n : Nat) : decDigits n ≠ [] := by
  rw [decDigits]
  split <;> simp
theorem dec_head (n : Nat) (h0 : n ≠ 0) : ∃ b r, decDigits n = b :: r ∧ b.toNat ≠ 48 := by
  induction n using Nat.strongRecOn with
  | _ n ih =>
    by_cases h : n < 10
    · exact ⟨_, [], decDigits_one h, by rw [digit_nat n h]; omega⟩
    · obtain ⟨b, r, e, hb⟩ := ih (n / 10) (by omega) (by omega)
      rw [decDigits, dif_neg h, e]
      exact ⟨b, _, rfl, hb⟩
theorem dec_digit (n : Nat) : ∀ b ∈ decDigits n, 48 ≤ b.toNat ∧ b.toNat ≤ 57 := by
  induction n using Nat.strongRecOn with
  | _ n ih =>
    intro b hb
    by_cases h : n < 10
    · rw [decDigits_one h, List.mem_singleton] at hb
      rw [hb, digit_nat n h]
      omega
    · rw [decDigits, dif_neg h] at hb
      rcases List.mem_append.1 hb with hb | hb
      · exact ih (n / 10) (by omega) b hb
      · rw [List.mem_singleton] at hb
        rw [hb, digit_nat _ (by omega)]
        omega
theorem val_dec : ∀ (k : Nat) (l : List UInt8) (n : Nat), l.length = k + 1 → valD 0 l = some n → (1 < l.length → ∀ b r, l = b :: r → b.toNat ≠ 48) → l = decDigits n := by
  intro k
  induction k with
  | zero =>
    intro l n hk hv _
    obtain ⟨b, rfl⟩ := List.length_eq_one_iff.1 hk
    simp only [valD] at hv
    split at hv
    · cases hv
      rw [decDigits_one (by omega)]
      congr 1
      apply UInt8.toNat_inj.1
      rw [digit_nat _ (by omega)]
      omega
    · cases hv
  | succ k ih =>
    intro l n hk hv hh
    obtain ⟨l', d, rfl⟩ : ∃ l' d, l = l' ++ [d] := ⟨l.dropLast, l.getLast (by intro e; rw [e] at hk; simp at hk), (List.dropLast_concat_getLast _).symm⟩
    have hl' : l'.length = k + 1 := by simpa using hk
    rw [valD_snoc] at hv
    cases hq : valD 0 l' with
    | none => rw [hq] at hv; cases hv
    | some v =>
      rw [hq, Option.bind_some] at hv
      have hhead : ∀ b r, l' = b :: r → b.toNat ≠ 48 := fun b r e => hh (by rw [hk]; omega) b (r ++ [d]) (by rw [e]; rfl)
      have e1 := ih l' v hl' hq (fun _ => hhead)
      split at hv
      · cases hv
        rename_i hd
        have hv0 : v ≠ 0 := by
          rintro rfl
          rw [decDigits_one (by decide)] at e1
          exact hhead _ _ e1 rfl
        rw [decDigits, dif_neg (by omega), show (v * 10 + (d.toNat - 48)) / 10 = v by omega, show (v * 10 + (d.toNat - 48)) % 10 = d.toNat - 48 by omega, ← e1]
        congr 2
        apply UInt8.toNat_inj.1
        rw [digit_nat _ (by omega)]
        omega
      · cases hv
theorem parseUintM_val : ∀ (l : List UInt8) (acc v : Nat), valD acc l = some v → v ≤ 1000000000000000000 → parseUintM (2 ^ 64 - 1) acc l = .ok v := by
  intro l
  induction l with
  | nil => intro acc v h _; rw [valD] at h; cases h; rfl
  | cons b l ih =>
    intro acc v h hv
    rw [valD] at h
    split at h
    · rename_i hd
      have h1 := valD_ge _ _ _ h
      rw [parseUintM, if_pos hd, if_neg (by omega), if_neg (by omega)]
      exact ih _ _ h hv
    · cases h
theorem parse_dec (n : Nat) (hn : n ≤ 1000000) : parseIntB 64 (decDigits n) = .ok (n : Int) := by
  cases hd : decDigits n with
  | nil => exact absurd hd (dec_ne n)
  | cons c r =>
    have hc := dec_digit n c (by rw [hd]; exact List.mem_cons_self ..)
    have hu : parseUintB 64 (c :: r) = .ok n := by
      unfold parseUintB
      rw [if_neg (by simp), ← hd]
      exact parseUintM_val _ _ _ (dec_val n) (by omega)
    rw [parseIntB_plain 64 c r (by omega) (by omega), hu]
    unfold signlessC
    simp only
    rw [if_neg (by omega)]

theorem fieldsGo_word (w : List UInt8) (hw : ∀ b ∈ w, isSp b = false) : ∀ (cur rest : List UInt8), fieldsGo cur (w ++ rest) = fieldsGo (cur ++ w) rest := by
  induction w with
  | nil => intro cur rest; simp
  | cons b w ih =>
    intro cur rest
    rw [List.cons_append, fieldsGo_more _ _ _ (hw b (List.mem_cons_self ..)), ih (fun x hx => hw x (List.mem_cons_of_mem _ hx)), List.append_assoc]
    rfl
theorem fields_join : ∀ ws : List (List UInt8), (∀ w ∈ ws, w ≠ [] ∧ ∀ b ∈ w, isSp b = false) → fields (Lib.join ws [32]) = ws := by
  intro ws
  unfold fields
  induction ws with
  | nil => intro _; rfl
  | cons x r ih =>
    intro h
    have hx := h x (List.mem_cons_self ..)
    have e0 : x.isEmpty = false := by rw [List.isEmpty_eq_false_iff]; exact hx.1
    cases r with
    | nil =>
      have := fieldsGo_word x hx.2 [] []
      rw [List.append_nil, List.nil_append] at this
      rw [join_one, this]
      simp [fieldsGo, e0]
    | cons y r =>
      rw [join_cons2, fieldsGo_word x hx.2 [], List.nil_append]
      show fieldsGo x (32 :: Lib.join (y :: r) [32]) = _
      rw [fieldsGo_end x 32 _ rfl hx.1, ih (fun w hw => h w (List.mem_cons_of_mem _ hw))]
theorem fieldsGoD_mem : ∀ (f : Nat) (cur l : List UInt8), ∀ x ∈ fieldsGoD f cur l, x ≠ [] ∧ x.length ≤ cur.length + l.length := by
  intro f
  induction f with
  | zero =>
    intro cur l x hx
    rw [fieldsGoD] at hx
    split at hx
    · cases hx
    · rename_i h
      rw [List.mem_singleton] at hx
      subst hx
      exact ⟨h, by omega⟩
  | succ f ih =>
    intro cur l x hx
    rw [fieldsGoD] at hx
    have one : ∀ x, x ∈ (if cur = [] then ([] : List (List UInt8)) else [cur]) → x ≠ [] ∧ x.length ≤ cur.length := by
      intro x hx
      split at hx
      · cases hx
      · rename_i h
        rw [List.mem_singleton] at hx
        subst hx
        exact ⟨h, Nat.le_refl _⟩
    split at hx
    · have := one x hx
      exact ⟨this.1, by omega⟩
    · split at hx
      · rcases List.mem_append.1 hx with hx | hx
        · have := one x hx
          exact ⟨this.1, by omega⟩
        · have := ih _ _ x hx
          simp only [List.length_nil, List.length_drop] at this
          exact ⟨this.1, by omega⟩
      · have := ih _ _ x hx
        simp only [List.length_append, List.length_drop, List.length_take] at this
        exact ⟨this.1, by omega⟩
theorem fieldsGoD_len : ∀ (f : Nat) (cur l : List UInt8), (fieldsGoD f cur l).length ≤ (if cur = [] then 0 else 1) + l.length := by
  intro f
  induction f with
  | zero =>
    intro cur l
    rw [fieldsGoD]
    split <;> simp
  | succ f ih =>
    intro cur l
    rw [fieldsGoD]
    split
    · split <;> simp
    · rename_i hne
      have hw := decodeL_width l
      have hl := decodeL_le l hne
      split
      · have := ih [] (l.drop (decodeL l).2)
        simp only [if_true, List.length_drop, List.length_append] at this ⊢
        split <;> simp <;> omega
      · have := ih (cur ++ l.take (decodeL l).2) (l.drop (decodeL l).2)
        rw [List.length_drop] at this
        split at this <;> split <;> omega
theorem fieldsD_mem (l x : List UInt8) (h : x ∈ fieldsD l) : x ≠ [] ∧ x.length ≤ l.length := by
  have := fieldsGoD_mem _ _ _ x h
  rw [List.length_nil, Nat.zero_add] at this
  exact this
theorem fieldsD_len (l : List UInt8) : (fieldsD l).length ≤ l.length := by
  have := fieldsGoD_len (l.length + 1) [] l
  rw [if_pos rfl, Nat.zero_add] at this
  exact this
end Go.Proofs.YtkldhleiipfaaaaDoor.Pure
