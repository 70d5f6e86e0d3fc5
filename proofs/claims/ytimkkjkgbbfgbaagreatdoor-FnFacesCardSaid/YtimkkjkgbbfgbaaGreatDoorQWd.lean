-- Joined by joinmods.py out of: QpureRS QlibF Qspecl01Split Qspecl01Words QpureFields QimplisWord QpureWord QspecWordsOf QimplWordsOf
import Derived.Lib.Join
import Derived.Lib.ParseIntB
import Derived.Lib.ParseIntBCases
import Derived.Lib.ItoaNum
import Derived.Lib.FieldsU
import Derived.Lib.Fields
import Derived.Lib.TrimAscii
import Derived.Lib.MapLaws
import Derived.Test.YtimkkjkgbbfgbaaGreatDoorQ0
import Derived.Test.YtimkkjkgbbfgbaaGreatDoorGlobF
import Derived.Test.YtimkkjkgbbfgbaaGreatDoorShelfL
import Derived.Test.YtimkkjkgbbfgbaaGreatDoorQValid
import Derived.Test.YtimkkjkgbbfgbaaGreatDoorGlob
import Derived.Test.YtimkkjkgbbfgbaaGreatDoorPure2
import Derived.Test.YtimkkjkgbbfgbaaGreatDoorQText
section
/- Words told and read again: cutting at a byte undoes joining; a number's digits are read again; fields of words joined by blanks. -/
namespace Go.Proofs.YtimkkjkgbbfgbaaGreatDoor.Pure
open Go.Lib
set_option linter.unusedVariables false
set_option linter.unusedSimpArgs false

/-- A list, cut at each c; 'cur': what has been read of the piece under way. -/
def cutAt (c : UInt8) : List UInt8 → List UInt8 → List (List UInt8)
  | cur, [] => [cur]
  | cur, b :: t => if b = c then cur :: cutAt c [] t else cutAt c (cur ++ [b]) t
theorem cutAt_none (c : UInt8) : ∀ (t cur : List UInt8), c ∉ t → cutAt c cur t = [cur ++ t] := by
  intro t
  induction t with
  | nil => intro cur _; simp [cutAt]
  | cons b t ih =>
    intro cur h
    rw [List.mem_cons, not_or] at h
    rw [cutAt, if_neg (fun e => h.1 e.symm), ih _ h.2, List.append_assoc]
    rfl
theorem cutAt_hit (c : UInt8) (t : List UInt8) : ∀ (a cur : List UInt8), c ∉ a → cutAt c cur (a ++ c :: t) = (cur ++ a) :: cutAt c [] t := by
  intro a
  induction a with
  | nil => intro cur _; simp [cutAt]
  | cons b a ih =>
    intro cur h
    rw [List.mem_cons, not_or] at h
    rw [List.cons_append, cutAt, if_neg (fun e => h.1 e.symm), ih _ h.2, List.append_assoc]
    rfl
theorem cutAt_len (c : UInt8) : ∀ (t cur : List UInt8), 1 ≤ (cutAt c cur t).length ∧ (cutAt c cur t).length ≤ t.length + 1 := by
  intro t
  induction t with
  | nil => intro cur; simp [cutAt]
  | cons b t ih =>
    intro cur
    rw [cutAt]
    split
    · have := ih []
      simp only [List.length_cons]; omega
    · have := ih (cur ++ [b])
      simp only [List.length_cons]; omega
theorem cutAt_mem (c : UInt8) : ∀ (t cur x : List UInt8), x ∈ cutAt c cur t → x.length ≤ cur.length + t.length := by
  intro t
  induction t with
  | nil => intro cur x h; simp [cutAt] at h; subst h; simp
  | cons b t ih =>
    intro cur x h
    rw [cutAt] at h
    split at h
    · rcases List.mem_cons.1 h with rfl | h
      · omega
      · have := ih [] x h
        simp at this ⊢; omega
    · have := ih _ x h
      simp at this ⊢; omega
theorem join_cons2 (x y : List UInt8) (r : List (List UInt8)) (sep : List UInt8) : Lib.join (x :: y :: r) sep = x ++ (sep ++ Lib.join (y :: r) sep) := by
  rw [join_cons, join_cons]
  simp [joinTail, List.append_assoc]
theorem cutAt_join (c : UInt8) : ∀ ws : List (List UInt8), ws ≠ [] → (∀ w ∈ ws, c ∉ w) → cutAt c [] (Lib.join ws [c]) = ws := by
  intro ws
  induction ws with
  | nil => intro h; exact absurd rfl h
  | cons x r ih =>
    intro _ h
    cases r with
    | nil => rw [join_one, cutAt_none c x [] (h x (List.mem_cons_self ..))]; rfl
    | cons y r =>
      rw [join_cons2]
      show cutAt c [] (x ++ c :: Lib.join (y :: r) [c]) = _
      rw [cutAt_hit c _ x [] (h x (List.mem_cons_self ..)), ih (by simp) (fun w hw => h w (List.mem_cons_of_mem _ hw))]
      rfl
theorem join_cutAt (c : UInt8) : ∀ (l cur : List UInt8), Lib.join (cutAt c cur l) [c] = cur ++ l := by
  intro l
  induction l with
  | nil => intro cur; rw [cutAt, join_one, List.append_nil]
  | cons b t ih =>
    intro cur
    rw [cutAt]
    split
    · rename_i e
      subst e
      have h1 := cutAt_len b t []
      have h2 := ih []
      cases hc : cutAt b [] t with
      | nil => rw [hc] at h1; simp at h1
      | cons y r =>
        rw [join_cons2, ← hc, h2]
        rfl
    · rw [ih, List.append_assoc]
      rfl

/-- A number that digits tell. -/
def valD : Nat → List UInt8 → Option Nat
  | acc, [] => some acc
  | acc, c :: r => if 48 ≤ c.toNat ∧ c.toNat ≤ 57 then valD (acc * 10 + (c.toNat - 48)) r else none
theorem valD_snoc (d : UInt8) : ∀ (l : List UInt8) (acc : Nat), valD acc (l ++ [d]) = (valD acc l).bind fun v => if 48 ≤ d.toNat ∧ d.toNat ≤ 57 then some (v * 10 + (d.toNat - 48)) else none := by
  intro l
  induction l with
  | nil => intro acc; simp [valD]
  | cons b l ih =>
    intro acc
    rw [List.cons_append, valD, valD]
    split
    · exact ih _
    · rfl
theorem valD_ge : ∀ (l : List UInt8) (acc v : Nat), valD acc l = some v → acc ≤ v := by
  intro l
  induction l with
  | nil => intro acc v h; rw [valD] at h; cases h; exact Nat.le_refl _
  | cons b l ih =>
    intro acc v h
    rw [valD] at h
    split at h
    · have := ih _ _ h; omega
    · cases h
theorem digit_nat (k : Nat) (h : k < 10) : (UInt8.ofNat (48 + k)).toNat = 48 + k := by
  rw [UInt8.toNat_ofNat']
  omega
theorem dec_val (n : Nat) : valD 0 (decDigits n) = some n := by
  induction n using Nat.strongRecOn with
  | _ n ih =>
    by_cases h : n < 10
    · rw [decDigits_one h]
      have := digit_nat n h
      simp only [valD]
      rw [if_pos (by omega), this]
      congr 1
      omega
    · rw [decDigits, dif_neg h, valD_snoc, ih (n / 10) (by omega), Option.bind_some, digit_nat _ (by omega), if_pos (by omega)]
      congr 1
      omega
theorem dec_ne (n : Nat) : decDigits n ≠ [] := by
  rw [decDigits]
  split <;> simp
theorem dec_head (n : Nat) (h0 : n ≠ 0) : ∃ b r, decDigits n = b :: r ∧ b.toNat ≠ 48 := by
  induction n using Nat.strongRecOn with
  | _ n ih =>
    by_cases h : n < 10
    · exact ⟨_, [], decDigits_one h, by rw [digit_nat n h]; omega⟩
    · obtain ⟨b, r, e, hb⟩ := ih (n / 10) (by omega) (by omega)
      rw [decDigits, dif_neg h, e]
      exact ⟨b, _, rfl, hb⟩
theorem dec_digit (n : Nat) : ∀ b ∈ decDigits n, 48 ≤ b.toNat ∧ b.toNat ≤ 57 := by
  induction n using Nat.strongRecOn with
  | _ n ih =>
    intro b hb
    by_cases h : n < 10
    · rw [decDigits_one h, List.mem_singleton] at hb
      rw [hb, digit_nat n h]
      omega
    · rw [decDigits, dif_neg h] at hb
      rcases List.mem_append.1 hb with hb | hb
      · exact ih (n / 10) (by omega) b hb
      · rw [List.mem_singleton] at hb
        rw [hb, digit_nat _ (by omega)]
        omega
theorem val_dec : ∀ (k : Nat) (l : List UInt8) (n : Nat), l.length = k + 1 → valD 0 l = some n → (1 < l.length → ∀ b r, l = b :: r → b.toNat ≠ 48) → l = decDigits n := by
  intro k
  induction k with
  | zero =>
    intro l n hk hv _
    obtain ⟨b, rfl⟩ := List.length_eq_one_iff.1 hk
    simp only [valD] at hv
    split at hv
    · cases hv
      rw [decDigits_one (by omega)]
      congr 1
      apply UInt8.toNat_inj.1
      rw [digit_nat _ (by omega)]
      omega
    · cases hv
  | succ k ih =>
    intro l n hk hv hh
    obtain ⟨l', d, rfl⟩ : ∃ l' d, l = l' ++ [d] := ⟨l.dropLast, l.getLast (by intro e; rw [e] at hk; simp at hk), (List.dropLast_concat_getLast _).symm⟩
    have hl' : l'.length = k + 1 := by simpa using hk
    rw [valD_snoc] at hv
    cases hq : valD 0 l' with
    | none => rw [hq] at hv; cases hv
    | some v =>
      rw [hq, Option.bind_some] at hv
      have hhead : ∀ b r, l' = b :: r → b.toNat ≠ 48 := fun b r e => hh (by rw [hk]; omega) b (r ++ [d]) (by rw [e]; rfl)
      have e1 := ih l' v hl' hq (fun _ => hhead)
      split at hv
      · cases hv
        rename_i hd
        have hv0 : v ≠ 0 := by
          rintro rfl
          rw [decDigits_one (by decide)] at e1
          exact hhead _ _ e1 rfl
        rw [decDigits, dif_neg (by omega), show (v * 10 + (d.toNat - 48)) / 10 = v by omega, show (v * 10 + (d.toNat - 48)) % 10 = d.toNat - 48 by omega, ← e1]
        congr 2
        apply UInt8.toNat_inj.1
        rw [digit_nat _ (by omega)]
        omega
      · cases hv
theorem parseUintM_val : ∀ (l : List UInt8) (acc v : Nat), valD acc l = some v → v ≤ 1000000000000000000 → parseUintM (2 ^ 64 - 1) acc l = .ok v := by
  intro l
  induction l with
  | nil => intro acc v h _; rw [valD] at h; cases h; rfl
  | cons b l ih =>
    intro acc v h hv
    rw [valD] at h
    split at h
    · rename_i hd
      have h1 := valD_ge _ _ _ h
      rw [parseUintM, if_pos hd, if_neg (by omega), if_neg (by omega)]
      exact ih _ _ h hv
    · cases h
theorem parse_dec (n : Nat) (hn : n ≤ 1000000) : parseIntB 64 (decDigits n) = .ok (n : Int) := by
  cases hd : decDigits n with
  | nil => exact absurd hd (dec_ne n)
  | cons c r =>
    have hc := dec_digit n c (by rw [hd]; exact List.mem_cons_self ..)
    have hu : parseUintB 64 (c :: r) = .ok n := by
      unfold parseUintB
      rw [if_neg (by simp), ← hd]
      exact parseUintM_val _ _ _ (dec_val n) (by omega)
    rw [parseIntB_plain 64 c r (by omega) (by omega), hu]
    unfold signlessC
    simp only
    rw [if_neg (by omega)]

theorem fieldsGo_word (w : List UInt8) (hw : ∀ b ∈ w, isSp b = false) : ∀ (cur rest : List UInt8), fieldsGo cur (w ++ rest) = fieldsGo (cur ++ w) rest := by
  induction w with
  | nil => intro cur rest; simp
  | cons b w ih =>
    intro cur rest
    rw [List.cons_append, fieldsGo_more _ _ _ (hw b (List.mem_cons_self ..)), ih (fun x hx => hw x (List.mem_cons_of_mem _ hx)), List.append_assoc]
    rfl
theorem fields_join : ∀ ws : List (List UInt8), (∀ w ∈ ws, w ≠ [] ∧ ∀ b ∈ w, isSp b = false) → fields (Lib.join ws [32]) = ws := by
  intro ws
  unfold fields
  induction ws with
  | nil => intro _; rfl
  | cons x r ih =>
    intro h
    have hx := h x (List.mem_cons_self ..)
    have e0 : x.isEmpty = false := by rw [List.isEmpty_eq_false_iff]; exact hx.1
    cases r with
    | nil =>
      have := fieldsGo_word x hx.2 [] []
      rw [List.append_nil, List.nil_append] at this
      rw [join_one, this]
      simp [fieldsGo, e0]
    | cons y r =>
      rw [join_cons2, fieldsGo_word x hx.2 [], List.nil_append]
      show fieldsGo x (32 :: Lib.join (y :: r) [32]) = _
      rw [fieldsGo_end x 32 _ rfl hx.1, ih (fun w hw => h w (List.mem_cons_of_mem _ hw))]
theorem fieldsGoD_mem : ∀ (f : Nat) (cur l : List UInt8), ∀ x ∈ fieldsGoD f cur l, x ≠ [] ∧ x.length ≤ cur.length + l.length := by
  intro f
  induction f with
  | zero =>
    intro cur l x hx
    rw [fieldsGoD] at hx
    split at hx
    · cases hx
    · rename_i h
      rw [List.mem_singleton] at hx
      subst hx
      exact ⟨h, by omega⟩
  | succ f ih =>
    intro cur l x hx
    rw [fieldsGoD] at hx
    have one : ∀ x, x ∈ (if cur = [] then ([] : List (List UInt8)) else [cur]) → x ≠ [] ∧ x.length ≤ cur.length := by
      intro x hx
      split at hx
      · cases hx
      · rename_i h
        rw [List.mem_singleton] at hx
        subst hx
        exact ⟨h, Nat.le_refl _⟩
    split at hx
    · have := one x hx
      exact ⟨this.1, by omega⟩
    · split at hx
      · rcases List.mem_append.1 hx with hx | hx
        · have := one x hx
          exact ⟨this.1, by omega⟩
        · have := ih _ _ x hx
          simp only [List.length_nil, List.length_drop] at this
          exact ⟨this.1, by omega⟩
      · have := ih _ _ x hx
        simp only [List.length_append, List.length_drop, List.length_take] at this
        exact ⟨this.1, by omega⟩
theorem fieldsGoD_len : ∀ (f : Nat) (cur l : List UInt8), (fieldsGoD f cur l).length ≤ (if cur = [] then 0 else 1) + l.length := by
  intro f
  induction f with
  | zero =>
    intro cur l
    rw [fieldsGoD]
    split <;> simp
  | succ f ih =>
    intro cur l
    rw [fieldsGoD]
    split
    · split <;> simp
    · rename_i hne
      have hw := decodeL_width l
      have hl := decodeL_le l hne
      split
      · have := ih [] (l.drop (decodeL l).2)
        simp only [if_true, List.length_drop, List.length_append] at this ⊢
        split <;> simp <;> omega
      · have := ih (cur ++ l.take (decodeL l).2) (l.drop (decodeL l).2)
        rw [List.length_drop] at this
        split at this <;> split <;> omega
theorem fieldsD_mem (l x : List UInt8) (h : x ∈ fieldsD l) : x ≠ [] ∧ x.length ≤ l.length := by
  have := fieldsGoD_mem _ _ _ x h
  rw [List.length_nil, Nat.zero_add] at this
  exact this
theorem fieldsD_len (l : List UInt8) : (fieldsD l).length ≤ l.length := by
  have := fieldsGoD_len (l.length + 1) [] l
  rw [if_pos rfl, Nat.zero_add] at this
  exact this
end Go.Proofs.YtimkkjkgbbfgbaaGreatDoor.Pure
end
section
/- strings.Fields at every text, in the printed form, out of the shelf. -/
namespace Go.Proofs.YtimkkjkgbbfgbaaGreatDoor.Q
open Go.RowKit Go.Proofs.YtimkkjkgbbfgbaaGreatDoorW.PrintWords Go.Proofs.YtimkkjkgbbfgbaaGreatDoorW.PrintLast Go.Proofs.YtimkkjkgbbfgbaaGreatDoorW.PrintMore
set_option linter.unusedVariables false

def strings_Fields.f (s : ByteArray) : Option (List ByteArray) := if s.size < 4294967281 then some ((Lib.fieldsD s.data.toList).map fun l => (⟨l.toArray⟩ : ByteArray)) else none
theorem strings_Fields.calls (a0 : ByteArray) (r : List ByteArray) (w : World) (hG_ : GlobF w) (h : strings_Fields.f a0 = some r) :
    Calls Tryz.prog 33 #[.string a0] w fun e w' => ∃ v0_ : Value, e = .returned v0_ ∧ Kd.R Kd.string 9 w' w.heap.size (fun _ => True) v0_ r ∧ Below w.heap.size w w' := by
  unfold strings_Fields.f at h
  split at h
  · rename_i h1
    cases h
    refine (Tryz.strings_Fields_any a0 w h1 hG_.tab hG_.white).mono ?_
    rintro e w' ⟨A, rfl, hA, ho, hb⟩
    have hl : ((Lib.fieldsD a0.data.toList).map fun l => (⟨l.toArray⟩ : ByteArray)).length = (Lib.fieldsD a0.data.toList).length := List.length_map ..
    refine ⟨_, rfl, ?_, hb⟩
    refine Kd.R_of_own (enc := Value.string) (h1 := fun _ => rfl) (xs := (Lib.fieldsD a0.data.toList).map fun l => (⟨l.toArray⟩ : ByteArray)) ?_ (ok := fun _ => True) (fun k hk => trivial)
    have he : encs Value.string ((Lib.fieldsD a0.data.toList).map fun l => (⟨l.toArray⟩ : ByteArray)) = (Lib.fieldsD a0.data.toList).map fun x => Value.string ⟨x.toArray⟩ := by
      unfold encs
      rw [List.map_map]
      rfl
    rw [hl, he]
    exact ho
  · cases h
end Go.Proofs.YtimkkjkgbbfgbaaGreatDoor.Q
end
section
-- WRITTEN BY A PROGRAM OF THIS SESSION (xprint.py, which runs the kit's printer with changes). Lean checks it.
namespace Go.Proofs.YtimkkjkgbbfgbaaGreatDoor.Q
open Go.RowKit Go.Proofs.YtimkkjkgbbfgbaaGreatDoorW.PrintWords Go.Proofs.YtimkkjkgbbfgbaaGreatDoorW.PrintLast Go.Proofs.YtimkkjkgbbfgbaaGreatDoorW.PrintMore
set_option linter.unusedVariables false
set_option linter.unusedSimpArgs false
attribute [local go_sem] max2_int min2_int max_two min_two max_three min_three max_four min_four   -- for this text's walks alone
/-! ### spec_l01Split: function 79 -/
def spec_l01Split.l0 : Nat → ByteArray → Int → List ByteArray → Int → Int → Option (List ByteArray)
  | 0, _, _, _, _, _ => none
  | k + 1, x0, x1, x5, x6, x7 => if x7 < (x0.size : Int) then (if 0 ≤ x7 then (if (bt x0 x7) = x1 then (if 0 ≤ x6 then (if x6 ≤ x7 then (if x7 ≤ (x0.size : Int) then (if x5.length < 8796093022208 then (spec_l01Split.l0 k x0 x1 (x5 ++ [x0.extract (x6 : Int).toNat (x7 : Int).toNat]) (wrap64 (x7 + 1)) (wrap64 (x7 + 1))) else (none)) else (none)) else (none)) else (none)) else (spec_l01Split.l0 k x0 x1 x5 x6 (wrap64 (x7 + 1)))) else (none)) else (if 0 ≤ x6 then (if x6 ≤ (x0.size : Int) then (if x5.length < 8796093022208 then (some (x5 ++ [x0.extract (x6 : Int).toNat x0.size])) else (none)) else (none)) else (none))
def spec_l01Split.f (k : Nat) (a0 : ByteArray) (a1 : Int) : Option (List ByteArray) := spec_l01Split.l0 k a0 a1 (([] : List ByteArray)) 0 0
theorem spec_l01Split.mono_l : ∀ k, (∀ y0 y1 y2 y3 y4, LeO (spec_l01Split.l0 k y0 y1 y2 y3 y4) (spec_l01Split.l0 (k + 1) y0 y1 y2 y3 y4))
  | 0 => fun _ _ _ _ _ r h => by simp [spec_l01Split.l0] at h
  | k + 1 => by
    have ih0 := spec_l01Split.mono_l k
    · intro y0 y1 y2 y3 y4
      unfold spec_l01Split.l0
      repeat' first
      | (with_reducible exact ih0 _ _ _ _ _)
      | (with_reducible exact LeO.refl _)
      | (with_reducible exact LeO.none _)
      | (with_reducible refine LeO.ite ?_ ?_)
      | (with_reducible refine LeO.bind ?_ (fun _ => ?_))
      | exact ih0 _ _ _ _ _
      | exact LeO.none _
      | refine LeO.ite ?_ ?_
      | refine LeO.bind ?_ (fun _ => ?_)
theorem spec_l01Split.mono : ∀ a0 a1 k, LeO (spec_l01Split.f k a0 a1) (spec_l01Split.f (k + 1) a0 a1) := by
  intro a0 a1 k
  have ih0 := spec_l01Split.mono_l k
  unfold spec_l01Split.f
  repeat' first
      | (with_reducible exact ih0 _ _ _ _ _)
      | (with_reducible exact LeO.refl _)
      | (with_reducible exact LeO.none _)
      | (with_reducible refine LeO.ite ?_ ?_)
      | (with_reducible refine LeO.bind ?_ (fun _ => ?_))
      | exact ih0 _ _ _ _ _
      | exact LeO.none _
      | refine LeO.ite ?_ ?_
      | refine LeO.bind ?_ (fun _ => ?_)
set_option maxHeartbeats 8000000 in
set_option maxRecDepth 100000 in
theorem spec_l01Split.calls (k : Nat) (a0 : ByteArray) (a1 : Int) (r : List ByteArray) (w : World) (h : spec_l01Split.f k a0 a1 = some r) :
    Calls Tryz.prog 79 #[.string a0, .int .u8 a1] w fun e w' => ∃ v0_ : Value, e = .returned (v0_) ∧ Kd.R Kd.string 9 w' w.heap.size (fun _ => True) v0_ r ∧ Below w.heap.size w w' := by
  have HB := Aside0.mk (Below.refl w.heap.size w)
  have H : (spec_l01Split.l0 k a0 a1 (([] : List ByteArray)) 0 0) = some r := h
  clear h
  obtain ⟨y277, hy277⟩ : ∃ y_ : List ByteArray, y_ = (([] : List ByteArray)) := ⟨_, rfl⟩
  replace H : (spec_l01Split.l0 k a0 a1 y277 0 0) = some r := by first | (rw [hy277]; with_reducible exact H) | (have H2_ := (Option.bind_some _ _).symm.trans H; rw [hy277]; with_reducible exact H2_) | (have H2_ := (Option.bind_some _ _).symm.trans H; with_reducible exact H2_) | with_reducible exact H | (rw [hy277]; exact H) | exact H
  have Ny277 := Aside0.mk hy277
  clear hy277
  have H' := Aside0.mk H
  clear H
  go_enter Tryz.func79, Tryz.ntmps79
  go_wp2_with (first | ((with_reducible refine gate_dst (N := 8) rfl ?_); refine Kd.R_lit Kd.string _ 9 ?hg (N := 8) ?hd (xs := ([] : List ByteArray)) (inner := []) (ok := fun _ => True) (okp := fun _ => True) ?hr ?hp (fun _ hk => hk) trivial (Below.refl _ _) (Nat.le_refl _) (by simp) ?_; (case hd => rfl); (case hg => rfl); (case hr => first | (go_simp; done) | (go_simp; rfl)); (case hp => exact (Reps.none _ _)); intro v278 w3 ho4 hb hg_ hnew_; clear hg_ hnew_; (first | rw [← Ny277.out] at ho4 | (simp only [Int.reduceToNat] at ho4; rw [← Ny277.out] at ho4)); have n0_ := Aside0.mk (Kd.R_lower ho4 (below_size (by repeat (first | (with_reducible first | exact HB.out | apply below_alloc | apply pw_below_drewN | apply below_drew1) | exact HB.out)))); have n1_ := Aside0.mk (below_step (by repeat (first | (with_reducible first | exact HB.out | apply below_alloc | apply pw_below_drewN | apply below_drew1) | exact HB.out)) hb); clear HB; have HO279 := n0_; have HB := n1_; clear n0_ n1_; clear hb ho4))
  go_loopg [5, 6, 7] k (fun kq v5 v6 v7 w' => ∃ (x5_1 : List ByteArray) (x6_1 : Int) (x7_1 : Int), v6 = .int .i64 x6_1 ∧ v7 = .int .i64 x7_1 ∧ Aside0 (spec_l01Split.l0 kq a0 a1 x5_1 x6_1 x7_1 = some r) ∧ Aside0 (kq ≤ k) ∧ Aside0 (Kd.R Kd.string 9 w' w.heap.size (fun _ => True) v5 x5_1) ∧ Aside0 (Below w.heap.size w w'))
  case atStart => exact ⟨(y277), (0), (0), (by first | rfl | (simp; done) | (simp [*]; done)), (by first | rfl | (simp; done) | (simp [*]; done)), H', ⟨Nat.le_refl _⟩, ⟨by (with_reducible repeat (first | apply Kd.R_alloc | apply Kd.R_drewN | apply Kd.R_drew)); exact HO279.out⟩, ⟨by repeat (first | (with_reducible first | exact HB.out | apply below_alloc | apply pw_below_drewN | apply below_drew1) | exact HB.out)⟩⟩
  case round =>
    clear H'
    try clear p2
    obtain ⟨x5_1, x6_1, x7_1, rfl, rfl, HA, HK1, HO_5, HB⟩ := hrel
    cases gk with
    | zero => exact absurd HA.out (by simp [spec_l01Split.l0])
    | succ k1 =>
      have H := HA.out
      clear HA
      simp only [spec_l01Split.l0] at H
      by_cases c5 : x7_1 < (a0.size : Int)
      · rw [if_pos c5] at H
        have c5b0 : decide (x7_1 < (a0.size : Int)) = true := decide_eq_true c5
        clear c5
        by_cases c6 : 0 ≤ x7_1
        · rw [if_pos c6] at H
          have c6b0 : decide (0 ≤ x7_1) = true := decide_eq_true c6
          clear c6
          by_cases c8 : (bt a0 x7_1) = a1
          · rw [if_pos c8] at H
            have c8b0 : ((bt a0 x7_1) == a1) = true := beq_iff_eq.mpr c8
            have c8b1 : ((bt a0 x7_1) != a1) = false := bne_eq_false_iff_eq.mpr c8
            clear c8
            by_cases c9 : 0 ≤ x6_1
            · rw [if_pos c9] at H
              have c9b0 := eq_true c9
              have c9b1 : decide (0 ≤ x6_1) = true := decide_eq_true c9
              clear c9
              by_cases c10 : x6_1 ≤ x7_1
              · rw [if_pos c10] at H
                have c10b0 := eq_true c10
                have c10b1 : decide (x6_1 ≤ x7_1) = true := decide_eq_true c10
                clear c10
                by_cases c11 : x7_1 ≤ (a0.size : Int)
                · rw [if_pos c11] at H
                  have c11b0 := eq_true c11
                  have c11b1 : decide (x7_1 ≤ (a0.size : Int)) = true := decide_eq_true c11
                  clear c11
                  by_cases c12 : x5_1.length < 8796093022208
                  · rw [if_pos c12] at H
                    have LMc12 := Aside0.mk c12
                    clear c12
                    obtain ⟨y280, hy280⟩ : ∃ y_ : List ByteArray, y_ = (x5_1 ++ [a0.extract (x6_1 : Int).toNat (x7_1 : Int).toNat]) := ⟨_, rfl⟩
                    replace H : (spec_l01Split.l0 k1 a0 a1 y280 (wrap64 (x7_1 + 1)) (wrap64 (x7_1 + 1))) = some r := by first | (rw [hy280]; with_reducible exact H) | (have H2_ := (Option.bind_some _ _).symm.trans H; rw [hy280]; with_reducible exact H2_) | (have H2_ := (Option.bind_some _ _).symm.trans H; with_reducible exact H2_) | with_reducible exact H | (rw [hy280]; exact H) | exact H
                    have Ny280 := Aside0.mk hy280
                    clear hy280
                    have H' := Aside0.mk H
                    clear H
                    have p7 : 0 ≤ (x7_1 : Int) := of_decide_eq_true (by first | (with_reducible assumption) | assumption)
                    have q7 : x7_1 < (a0.size : Int) := of_decide_eq_true (by first | (with_reducible assumption) | assumption)
                    have hx7 := bt_at a0 x7_1
                    replace p7 := eq_true p7
                    replace q7 := eq_true q7
                    go_wp2_with (first | ((with_reducible refine gate_builtin (b := .append) (xs := #[.tmp 20, .tmp 25]) rfl ?_); at_builtin; refine Kd.R_append Kd.string (w0 := w) w.heap.size rfl (.tmp 20) (.tmp 25) 38 9 (.string ⟨#[]⟩) 16 rfl Tryz.underlying38 info9 rfl (by decide) (by omega) u5 x5_1 (a0.extract (x6_1 : Int).toNat (x7_1 : Int).toNat) [.string (a0.extract (x6_1 : Int).toNat (x7_1 : Int).toNat)] (fun _ => True) (fun _ => False) rfl rfl ?aP (fun _ hk => hk.elim) ?aF ?aO ?aB ?aS ?aL ?_; (case aP => exact rfl); (case aB => exact (by repeat (first | (with_reducible first | exact HB.out | apply below_alloc | apply pw_below_drewN | apply below_drew1) | exact HB.out))); (case aF => exact (fun _ _ => trivial)); (case aO => exact (by (with_reducible repeat (first | apply Kd.R_alloc | apply Kd.R_drewN | apply Kd.R_drew)); exact HO_5.out)); (case aS => exact (below_size (by repeat (first | (with_reducible first | exact HB.out | apply below_alloc | apply pw_below_drewN | apply below_drew1) | exact HB.out)))); (case aL => have := LMc12.out; omega); intro v281 w13 ho hb hg hat; rw [← Ny280.out] at ho; have n0_ := Aside0.mk (hb); have n1_ := Aside0.mk (ho); clear HB; clear HO_5; have HB := n0_; have HO282 := n1_; clear n0_ n1_; clear ho hb hg hat))
                    go_roundg k1
                    case measure => have := HK1.out; omega
                    case rel => exact ⟨(y280), (wrap64 (x7_1 + 1)), (wrap64 (x7_1 + 1)), (by first | rfl | (simp; done) | (simp [*]; done)), (by first | rfl | (simp; done) | (simp [*]; done)), H', ⟨by have := HK1.out; omega⟩, ⟨by (with_reducible repeat (first | apply Kd.R_alloc | apply Kd.R_drewN | apply Kd.R_drew)); exact HO282.out⟩, ⟨by repeat (first | (with_reducible first | exact HB.out | apply below_alloc | apply pw_below_drewN | apply below_drew1) | exact HB.out)⟩⟩
                  · rw [if_neg c12] at H
                    exact absurd H (by simp)
                · rw [if_neg c11] at H
                  exact absurd H (by simp)
              · rw [if_neg c10] at H
                exact absurd H (by simp)
            · rw [if_neg c9] at H
              exact absurd H (by simp)
          · rw [if_neg c8] at H
            have c8b0 : ((bt a0 x7_1) == a1) = false := beq_eq_false_iff_ne.mpr c8
            have c8b1 : ((bt a0 x7_1) != a1) = true := bne_iff_ne.mpr c8
            have H' := Aside0.mk H
            clear H
            have p7 : 0 ≤ (x7_1 : Int) := of_decide_eq_true (by first | (with_reducible assumption) | assumption)
            have q7 : x7_1 < (a0.size : Int) := of_decide_eq_true (by first | (with_reducible assumption) | assumption)
            have hx7 := bt_at a0 x7_1
            replace p7 := eq_true p7
            replace q7 := eq_true q7
            go_wp2
            go_roundg k1
            case measure => have := HK1.out; omega
            case rel => exact ⟨(x5_1), (x6_1), (wrap64 (x7_1 + 1)), (by first | rfl | (simp; done) | (simp [*]; done)), (by first | rfl | (simp; done) | (simp [*]; done)), H', ⟨by have := HK1.out; omega⟩, ⟨by (with_reducible repeat (first | apply Kd.R_alloc | apply Kd.R_drewN | apply Kd.R_drew)); exact HO_5.out⟩, ⟨by repeat (first | (with_reducible first | exact HB.out | apply below_alloc | apply pw_below_drewN | apply below_drew1) | exact HB.out)⟩⟩
        · rw [if_neg c6] at H
          exact absurd H (by simp)
      · rw [if_neg c5] at H
        have c5b0 : decide (x7_1 < (a0.size : Int)) = false := decide_eq_false c5
        clear c5
        by_cases c14 : 0 ≤ x6_1
        · rw [if_pos c14] at H
          have c14b0 := eq_true c14
          have c14b1 : decide (0 ≤ x6_1) = true := decide_eq_true c14
          clear c14
          by_cases c15 : x6_1 ≤ (a0.size : Int)
          · rw [if_pos c15] at H
            have c15b0 := eq_true c15
            have c15b1 : decide (x6_1 ≤ (a0.size : Int)) = true := decide_eq_true c15
            clear c15
            by_cases c16 : x5_1.length < 8796093022208
            · rw [if_pos c16] at H
              have LMc16 := Aside0.mk c16
              clear c16
              obtain ⟨y283, hy283⟩ : ∃ y_ : List ByteArray, y_ = (x5_1 ++ [a0.extract (x6_1 : Int).toNat a0.size]) := ⟨_, rfl⟩
              replace H : (some y283) = some r := by first | (rw [hy283]; with_reducible exact H) | (have H2_ := (Option.bind_some _ _).symm.trans H; rw [hy283]; with_reducible exact H2_) | (have H2_ := (Option.bind_some _ _).symm.trans H; with_reducible exact H2_) | with_reducible exact H | (rw [hy283]; exact H) | exact H
              have Ny283 := Aside0.mk hy283
              clear hy283
              obtain rfl := Option.some.inj H
              go_wp2_with (first | ((with_reducible refine gate_builtin (b := .append) (xs := #[.tmp 29, .tmp 33]) rfl ?_); at_builtin; refine Kd.R_append Kd.string (w0 := w) w.heap.size rfl (.tmp 29) (.tmp 33) 38 9 (.string ⟨#[]⟩) 16 rfl Tryz.underlying38 info9 rfl (by decide) (by omega) u5 x5_1 (a0.extract (x6_1 : Int).toNat a0.size) [.string (a0.extract (x6_1 : Int).toNat a0.size)] (fun _ => True) (fun _ => False) rfl rfl ?aP (fun _ hk => hk.elim) ?aF ?aO ?aB ?aS ?aL ?_; (case aP => exact rfl); (case aB => exact (by repeat (first | (with_reducible first | exact HB.out | apply below_alloc | apply pw_below_drewN | apply below_drew1) | exact HB.out))); (case aF => exact (fun _ _ => trivial)); (case aO => exact (by (with_reducible repeat (first | apply Kd.R_alloc | apply Kd.R_drewN | apply Kd.R_drew)); exact HO_5.out)); (case aS => exact (below_size (by repeat (first | (with_reducible first | exact HB.out | apply below_alloc | apply pw_below_drewN | apply below_drew1) | exact HB.out)))); (case aL => have := LMc16.out; omega); intro v284 w17 ho hb hg hat; rw [← Ny283.out] at ho; have n0_ := Aside0.mk (hb); have n1_ := Aside0.mk (ho); clear HB; clear HO_5; have HB := n0_; have HO285 := n1_; clear n0_ n1_; clear ho hb hg hat))
              go_ret
              exact ⟨_, by first | rfl | (simp [errW_none, errW_some] <;> rfl) | (simp [*, errW_none, errW_some] <;> rfl), by (with_reducible repeat (first | apply Kd.R_alloc | apply Kd.R_drewN | apply Kd.R_drew)); exact HO285.out, by repeat (first | (with_reducible first | exact HB.out | apply below_alloc | apply pw_below_drewN | apply below_drew1) | exact HB.out)⟩
            · rw [if_neg c16] at H
              exact absurd H (by simp)
          · rw [if_neg c15] at H
            exact absurd H (by simp)
        · rw [if_neg c14] at H
          exact absurd H (by simp)

end Go.Proofs.YtimkkjkgbbfgbaaGreatDoor.Q
end
section
-- WRITTEN BY A PROGRAM OF THIS SESSION (xprint.py, which runs the kit's printer with changes). Lean checks it.
namespace Go.Proofs.YtimkkjkgbbfgbaaGreatDoor.Q
open Go.RowKit Go.Proofs.YtimkkjkgbbfgbaaGreatDoorW.PrintWords Go.Proofs.YtimkkjkgbbfgbaaGreatDoorW.PrintLast Go.Proofs.YtimkkjkgbbfgbaaGreatDoorW.PrintMore
set_option linter.unusedVariables false
set_option linter.unusedSimpArgs false
attribute [local go_sem] max2_int min2_int max_two min_two max_three min_three max_four min_four   -- for this text's walks alone
/-! ### spec_l01Words: function 49 -/
def spec_l01Words.f (k : Nat) (a0 : ByteArray) : Option (List ByteArray) := if a0.toList = ([] : List UInt8) then (some (([] : List ByteArray))) else ((spec_l01Split.f k a0 32).bind fun t289 => (some t289))
theorem spec_l01Words.mono : ∀ a0 k, LeO (spec_l01Words.f k a0) (spec_l01Words.f (k + 1) a0) := by
  intro a0 k
  unfold spec_l01Words.f
  repeat' first
      | (with_reducible exact spec_l01Split.mono _ _ _)
      | (with_reducible exact LeO.refl _)
      | (with_reducible exact LeO.none _)
      | (with_reducible refine LeO.ite ?_ ?_)
      | (with_reducible refine LeO.bind ?_ (fun _ => ?_))
      | exact spec_l01Split.mono _ _ _
      | exact LeO.none _
      | refine LeO.ite ?_ ?_
      | refine LeO.bind ?_ (fun _ => ?_)
set_option maxHeartbeats 8000000 in
set_option maxRecDepth 100000 in
theorem spec_l01Words.calls (k : Nat) (a0 : ByteArray) (r : List ByteArray) (w : World) (h : spec_l01Words.f k a0 = some r) :
    Calls Tryz.prog 49 #[.string a0] w fun e w' => ∃ v0_ : Value, e = .returned (v0_) ∧ Kd.R Kd.string 9 w' w.heap.size (fun _ => True) v0_ r ∧ Below w.heap.size w w' := by
  have HB := Aside0.mk (Below.refl w.heap.size w)
  have H : (if a0.toList = ([] : List UInt8) then (some (([] : List ByteArray))) else ((spec_l01Split.f k a0 32).bind fun t289 => (some t289))) = some r := h
  clear h
  by_cases c2 : a0.toList = ([] : List UInt8)
  · rw [if_pos c2] at H
    have c2b0 : (a0.toList == ([] : List UInt8)) = true := beq_iff_eq.mpr c2
    have c2b1 : (a0.toList != ([] : List UInt8)) = false := bne_eq_false_iff_eq.mpr c2
    clear c2
    obtain ⟨y286, hy286⟩ : ∃ y_ : List ByteArray, y_ = (([] : List ByteArray)) := ⟨_, rfl⟩
    replace H : (some y286) = some r := by first | (rw [hy286]; with_reducible exact H) | (have H2_ := (Option.bind_some _ _).symm.trans H; rw [hy286]; with_reducible exact H2_) | (have H2_ := (Option.bind_some _ _).symm.trans H; with_reducible exact H2_) | with_reducible exact H | (rw [hy286]; exact H) | exact H
    have Ny286 := Aside0.mk hy286
    clear hy286
    obtain rfl := Option.some.inj H
    go_enter Tryz.func49, Tryz.ntmps49
    go_wp2_with (first | ((with_reducible refine gate_dst (N := 5) rfl ?_); refine Kd.R_lit Kd.string _ 9 ?hg (N := 5) ?hd (xs := ([] : List ByteArray)) (inner := []) (ok := fun _ => True) (okp := fun _ => True) ?hr ?hp (fun _ hk => hk) trivial (Below.refl _ _) (Nat.le_refl _) (by simp) ?_; (case hd => rfl); (case hg => rfl); (case hr => first | (go_simp; done) | (go_simp; rfl)); (case hp => exact (Reps.none _ _)); intro v287 w3 ho4 hb hg_ hnew_; clear hg_ hnew_; (first | rw [← Ny286.out] at ho4 | (simp only [Int.reduceToNat] at ho4; rw [← Ny286.out] at ho4)); have n0_ := Aside0.mk (Kd.R_lower ho4 (below_size (by repeat (first | (with_reducible first | exact HB.out | apply below_alloc | apply pw_below_drewN | apply below_drew1) | exact HB.out)))); have n1_ := Aside0.mk (below_step (by repeat (first | (with_reducible first | exact HB.out | apply below_alloc | apply pw_below_drewN | apply below_drew1) | exact HB.out)) hb); clear HB; have HO288 := n0_; have HB := n1_; clear n0_ n1_; clear hb ho4))
    go_ret
    exact ⟨_, by first | rfl | (simp [errW_none, errW_some] <;> rfl) | (simp [*, errW_none, errW_some] <;> rfl), by (with_reducible repeat (first | apply Kd.R_alloc | apply Kd.R_drewN | apply Kd.R_drew)); exact HO288.out, by repeat (first | (with_reducible first | exact HB.out | apply below_alloc | apply pw_below_drewN | apply below_drew1) | exact HB.out)⟩
  · rw [if_neg c2] at H
    have c2b0 : (a0.toList == ([] : List UInt8)) = false := beq_eq_false_iff_ne.mpr c2
    have c2b1 : (a0.toList != ([] : List UInt8)) = true := bne_iff_ne.mpr c2
    replace H := Option.bind_eq_some_iff.mp H
    obtain ⟨t289, A50, H⟩ := H
    replace H : (some t289) = some r := H
    have A5 := Aside0.mk A50
    clear A50
    obtain rfl := Option.some.inj H
    go_enter Tryz.func49, Tryz.ntmps49
    go_wp2_with (first | ((with_reducible refine gate_callee (f := 79) rfl ?_); refine goesL_ (some 7) rfl rfl Tryz.func79 (by kernel_rfl) rfl #[.string a0, .int .u8 32] rfl (by (try simp only [List.map_toArray, List.map_cons, List.map_nil]); first | done | rfl | (simp only [List.length_drop, List.length_take]; rfl)) ?_; (with_reducible refine (spec_l01Split.calls k a0 32 t289 _ A5.out).mono ?_); rintro e w6 ⟨v290, rfl, ho0, hb⟩; refine ⟨_, rfl, ?_⟩; have n0_ := Aside0.mk (Kd.R_lower ho0 (below_size (by repeat (first | (with_reducible first | exact HB.out | apply below_alloc | apply pw_below_drewN | apply below_drew1) | exact HB.out)))); have n1_ := Aside0.mk (below_step (by repeat (first | (with_reducible first | exact HB.out | apply below_alloc | apply pw_below_drewN | apply below_drew1) | exact HB.out)) hb); clear HB; have HO291 := n0_; have HB := n1_; clear n0_ n1_; (try clear hb); (try clear hb2); (try clear hk); (try clear hi); (try clear ho0)))
    go_ret
    exact ⟨_, by first | rfl | (simp [errW_none, errW_some] <;> rfl) | (simp [*, errW_none, errW_some] <;> rfl), by (with_reducible repeat (first | apply Kd.R_alloc | apply Kd.R_drewN | apply Kd.R_drew)); exact HO291.out, by repeat (first | (with_reducible first | exact HB.out | apply below_alloc | apply pw_below_drewN | apply below_drew1) | exact HB.out)⟩

end Go.Proofs.YtimkkjkgbbfgbaaGreatDoor.Q
end
section
/- The words of a valid text: strings.Fields and the reference's split at blanks. -/
namespace Go.Proofs.YtimkkjkgbbfgbaaGreatDoor.Q
open Go.RowKit Go.Proofs.YtimkkjkgbbfgbaaGreatDoorW.PrintWords Go.Proofs.YtimkkjkgbbfgbaaGreatDoorW.PrintLast Go.Proofs.YtimkkjkgbbfgbaaGreatDoorW.PrintMore
open Go.Proofs.YtimkkjkgbbfgbaaGreatDoor.Pure
set_option linter.unusedVariables false

def sliceL (a : ByteArray) (s i : Nat) : List UInt8 := (a.data.toList.drop s).take (i - s)
theorem extract_slice (a : ByteArray) (s i : Nat) : a.extract s i = ⟨(sliceL a s i).toArray⟩ := by
  apply ByteArray.ext
  rw [ByteArray.data_extract]
  apply Array.toList_inj.1
  simp [sliceL, List.extract_eq_take_drop]
theorem sliceL_step (a : ByteArray) (s i : Nat) (hs : s ≤ i) (hi : i < a.size) : sliceL a s (i + 1) = sliceL a s i ++ [a[i]] := by
  unfold sliceL
  have hl : i - s < (a.data.toList.drop s).length := by rw [List.length_drop, data_length]; omega
  rw [show i + 1 - s = (i - s) + 1 by omega, List.take_succ_eq_append_getElem hl]
  congr 1
  simp [List.getElem_drop, show s + (i - s) = i by omega]
  rfl
theorem sliceL_len (a : ByteArray) (s i : Nat) (hs : s ≤ i) (hi : i ≤ a.size) : (sliceL a s i).length = i - s := by
  unfold sliceL
  rw [List.length_take, List.length_drop, data_length]
  omega
theorem byte_at (a : ByteArray) (i : Nat) (h : i < a.size) : bt a i = (a[i].toNat : Int) := by
  have := bt_at a (i : Int) (by simpa using h)
  simp only [Int.toNat_natCast] at this
  exact this.symm
theorem letter_sp (b : UInt8) (h : isL (b.toNat : Int) = true) : Lib.isSp b = false := by
  unfold isL at h
  simp only [Bool.and_eq_true, decide_eq_true_iff] at h
  unfold Lib.isSp
  have e : ∀ c : UInt8, c.toNat < 65 → (b == c) = false := fun c hc => by
    rw [beq_eq_false_iff_ne]
    rintro rfl
    omega
  rw [e 9 (by decide), e 10 (by decide), e 11 (by decide), e 12 (by decide), e 13 (by decide), e 32 (by decide)]
  rfl
def wordsF (a : ByteArray) : List ByteArray := (Lib.fields a.data.toList).map fun l => (⟨l.toArray⟩ : ByteArray)

theorem split_fields (a : ByteArray) (h : textB a = true) : ∀ d i s (acc : List ByteArray), i + d = a.size → s ≤ i → acc.length ≤ i → (s = i → i < a.size ∧ bt a i ≠ 32) →
    spec_l01Split.l0 (d + 1) a 32 acc (s : Nat) (i : Nat) = some (acc ++ (Lib.fieldsGo (sliceL a s i) (a.data.toList.drop i)).map fun l => (⟨l.toArray⟩ : ByteArray)) := by
  have hsm := text_small h
  have hok : ∀ i, i < a.size → okAt a i = true := by
    unfold textB at h
    simp only [Bool.and_eq_true, List.all_eq_true, List.mem_range] at h
    exact h.1
  intro d
  induction d with
  | zero =>
    intro i s acc hi hs hacc hst
    have hlt : s < i := by
      rcases Nat.lt_or_ge s i with h1 | h1
      · exact h1
      · have := (hst (by omega)).1; omega
    obtain rfl : i = a.size := by omega
    rw [spec_l01Split.l0, if_neg (by omega), if_pos (by omega), if_pos (by omega), if_pos (by omega), List.drop_of_length_le (by rw [data_length]; exact Nat.le_refl _), Int.toNat_natCast, extract_slice]
    have hne : (sliceL a s a.size).isEmpty = false := by
      rw [List.isEmpty_eq_false_iff, ← List.length_pos_iff, sliceL_len a s a.size (by omega) (Nat.le_refl _)]
      omega
    simp [Lib.fieldsGo, hne]
  | succ d ih =>
    intro i s acc hi hs hacc hst
    have hlt : i < a.size := by omega
    have hd : a.data.toList.drop i = a[i] :: a.data.toList.drop (i + 1) := by
      rw [List.drop_eq_getElem_cons (by rw [data_length]; exact hlt)]
      rfl
    have hb := byte_at a i hlt
    rw [spec_l01Split.l0, if_pos (by omega), if_pos (by omega), wrap_succ hlt (by omega), hd]
    by_cases c : bt a i = 32
    · have hlt2 : s < i := by
        rcases Nat.lt_or_ge s i with h1 | h1
        · exact h1
        · exact absurd c (hst (by omega)).2
      have hne : (sliceL a s i).isEmpty = false := by
        rw [List.isEmpty_eq_false_iff, ← List.length_pos_iff, sliceL_len a s i (by omega) (by omega)]
        omega
      have hsp : Lib.isSp a[i] = true := by
        have : a[i] = 32 := UInt8.toNat_inj.1 (by show a[i].toNat = 32; omega)
        rw [this]; rfl
      have h1 := hok i hlt
      unfold okAt at h1
      rw [if_pos c] at h1
      simp only [Bool.and_eq_true, Bool.not_eq_true', beq_eq_false_iff_ne] at h1
      have hlt3 : i + 1 < a.size := by omega
      have h2 := hok (i + 1) hlt3
      have hnext : bt a ((i + 1 : Nat) : Int) ≠ 32 := by
        intro e
        unfold okAt at h2
        rw [if_pos e] at h2
        simp [c] at h2
      rw [if_pos c, if_pos (by omega), if_pos (by omega), if_pos (by omega), if_pos (by omega), Int.toNat_natCast, Int.toNat_natCast, ih (i + 1) (i + 1) _ (by omega) (Nat.le_refl _) (by rw [List.length_append]; simp; omega) (fun _ => ⟨hlt3, hnext⟩)]
      have h0 : sliceL a (i + 1) (i + 1) = [] := by simp [sliceL]
      rw [Lib.fieldsGo, if_pos hsp, hne, h0, extract_slice]
      simp
    · have hl : isL (bt a i) = true := by
        have h1 := hok i hlt
        unfold okAt at h1
        rw [if_neg c] at h1
        exact h1
      rw [hb] at hl
      rw [if_neg c, ih (i + 1) s acc (by omega) (by omega) (by omega) (fun e => by omega), Lib.fieldsGo, letter_sp _ hl, sliceL_step a s i hs hlt]
      rfl

theorem spec_l01Words.val (a : ByteArray) (h : textB a = true) (k : Nat) (hk : 62 ≤ k) : spec_l01Words.f k a = some (wordsF a) := by
  have hsm := text_small h
  unfold spec_l01Words.f wordsF
  by_cases h0 : a.size = 0
  · have e : a.data.toList = [] := by rw [← List.length_eq_zero_iff, data_length]; exact h0
    rw [if_pos (by rw [ByteArray.toList_eq]; exact e), e]
    rfl
  · have e : ¬ a.toList = [] := by rw [ByteArray.toList_eq, ← List.length_eq_zero_iff, data_length]; exact h0
    rw [if_neg e]
    have hok : okAt a 0 = true := by
      unfold textB at h
      simp only [Bool.and_eq_true, List.all_eq_true, List.mem_range] at h
      exact h.1 0 (by omega)
    have h1 : bt a ((0 : Nat) : Int) ≠ 32 := by
      intro c
      unfold okAt at hok
      rw [if_pos c] at hok
      simp at hok
    have hsplit := split_fields a h a.size 0 0 [] (by omega) (Nat.le_refl _) (Nat.le_refl _) (fun _ => ⟨by omega, h1⟩)
    have hf : spec_l01Split.f (a.size + 1) a 32 = some ((Lib.fields a.data.toList).map fun l => (⟨l.toArray⟩ : ByteArray)) := by
      unfold spec_l01Split.f
      rw [List.nil_append, List.drop_zero] at hsplit
      exact hsplit
    rw [at_rounds (spec_l01Split.mono a 32) (by omega) hf]
    rfl
theorem fields_len (a : ByteArray) : (Lib.fields a.data.toList).length ≤ a.size + 1 := by
  have key : ∀ (l cur : List UInt8), (Lib.fieldsGo cur l).length ≤ l.length + 1 := by
    intro l
    induction l with
    | nil => intro cur; unfold Lib.fieldsGo; split <;> simp
    | cons b l ih =>
      intro cur
      unfold Lib.fieldsGo
      split
      · split
        · have := ih []; simp; omega
        · have := ih []; simp; omega
      · have := ih (cur ++ [b]); simp; omega
  have := key a.data.toList []
  rw [data_length] at this
  exact this
theorem strings_Fields.val (a : ByteArray) (h : textB a = true) : strings_Fields.f a = some (wordsF a) := by
  have hsm := text_small h
  have hfl := fields_len a
  unfold strings_Fields.f
  have hall : ∀ b ∈ a.data.toList, b.toNat < 128 := by
    intro b hb
    obtain ⟨i, hi, rfl⟩ := List.getElem_of_mem hb
    have hi' : i < a.size := by rw [data_length] at hi; exact hi
    have hm : bt a i ∈ bytesOf a := by rw [← bytesOf_at a i hi']; exact List.getElem_mem _
    have hv := text_bytes h _ hm
    rw [byte_at a i hi'] at hv
    have he : a.data.toList[i] = a[i] := rfl
    rw [he]
    unfold isL at hv
    simp only [Bool.and_eq_true, decide_eq_true_iff] at hv ⊢
    omega
  rw [if_pos (by omega), Lib.fieldsD_ascii _ hall]
  rfl
end Go.Proofs.YtimkkjkgbbfgbaaGreatDoor.Q
end
section
-- WRITTEN BY A PROGRAM OF THIS SESSION (xprint.py, which runs the kit's printer with changes). Lean checks it.
namespace Go.Proofs.YtimkkjkgbbfgbaaGreatDoor.Q
open Go.RowKit Go.Proofs.YtimkkjkgbbfgbaaGreatDoorW.PrintWords Go.Proofs.YtimkkjkgbbfgbaaGreatDoorW.PrintLast Go.Proofs.YtimkkjkgbbfgbaaGreatDoorW.PrintMore
set_option linter.unusedVariables false
set_option linter.unusedSimpArgs false
attribute [local go_sem] max2_int min2_int max_two min_two max_three min_three max_four min_four   -- for this text's walks alone
/-! ### impl_isWord: function 52 -/
def impl_isWord.f (k : Nat) (a0 : ByteArray) : Option (Bool) := (impl_ValidText.f k a0).bind fun t336 => (if t336 = true then (if a0.toList = ([] : List UInt8) then (some false) else ((strings_Contains.f a0 (⟨#[32]⟩ : ByteArray)).bind fun t337 => (some (!t337)))) else (some false))
theorem impl_isWord.mono : ∀ a0 k, LeO (impl_isWord.f k a0) (impl_isWord.f (k + 1) a0) := by
  intro a0 k
  unfold impl_isWord.f
  repeat' first
      | (with_reducible exact impl_ValidText.mono _ _)
      | (with_reducible exact LeO.refl _)
      | (with_reducible exact LeO.none _)
      | (with_reducible refine LeO.ite ?_ ?_)
      | (with_reducible refine LeO.bind ?_ (fun _ => ?_))
      | exact impl_ValidText.mono _ _
      | exact LeO.none _
      | refine LeO.ite ?_ ?_
      | refine LeO.bind ?_ (fun _ => ?_)
set_option maxHeartbeats 8000000 in
set_option maxRecDepth 100000 in
theorem impl_isWord.calls (k : Nat) (a0 : ByteArray) (r : Bool) (w : World) (hG_ : Glob w) (h : impl_isWord.f k a0 = some r) :
    Calls Tryz.prog 52 #[.string a0] w fun e w' => e = .returned (.bool r) ∧ Below w.heap.size w w' := by
  have HB := Aside0.mk (Below.refl w.heap.size w)
  have H : ((impl_ValidText.f k a0).bind fun t336 => (if t336 = true then (if a0.toList = ([] : List UInt8) then (some false) else ((strings_Contains.f a0 (⟨#[32]⟩ : ByteArray)).bind fun t337 => (some (!t337)))) else (some false))) = some r := h
  clear h
  replace H := Option.bind_eq_some_iff.mp H
  obtain ⟨t336, A20, H⟩ := H
  replace H : (if t336 = true then (if a0.toList = ([] : List UInt8) then (some false) else ((strings_Contains.f a0 (⟨#[32]⟩ : ByteArray)).bind fun t337 => (some (!t337)))) else (some false)) = some r := H
  have A2 := Aside0.mk A20
  clear A20
  by_cases c3 : t336 = true
  · subst c3
    have H1 : (if a0.toList = ([] : List UInt8) then (some false) else ((strings_Contains.f a0 (⟨#[32]⟩ : ByteArray)).bind fun t337 => (some (!t337)))) = some r := by rw [if_pos rfl] at H; exact H
    clear H
    have H := H1
    clear H1
    by_cases c4 : a0.toList = ([] : List UInt8)
    · rw [if_pos c4] at H
      have c4b0 : (a0.toList == ([] : List UInt8)) = true := beq_iff_eq.mpr c4
      have c4b1 : (a0.toList != ([] : List UInt8)) = false := bne_eq_false_iff_eq.mpr c4
      clear c4
      obtain rfl := Option.some.inj H
      go_enter Tryz.func52, Tryz.ntmps52
      go_wp2_with (first | ((with_reducible refine gate_callee (f := 18) rfl ?_); refine goesL_ (some 4) rfl rfl Tryz.func18 (by kernel_rfl) rfl #[.string a0] rfl (by (try simp only [List.map_toArray, List.map_cons, List.map_nil]); first | done | rfl | (simp only [List.length_drop, List.length_take]; rfl)) ?_; (with_reducible refine (impl_ValidText.calls k a0 true _ ?side1 A2.out).mono ?_); (case side1 => refine Glob.step hG_ ?_; repeat (first | (with_reducible first | exact HB.out | apply below_alloc | apply pw_below_drewN | apply below_drew1) | exact HB.out)); rintro e w5 ⟨rfl, hb⟩; refine ⟨_, rfl, ?_⟩; have n0_ := Aside0.mk (below_step (by repeat (first | (with_reducible first | exact HB.out | apply below_alloc | apply pw_below_drewN | apply below_drew1) | exact HB.out)) hb); clear HB; have HB := n0_; clear n0_; (try clear hb); (try clear hb2); (try clear hk); (try clear hi)))
      go_ret
      exact ⟨by first | rfl | (simp [errW_none, errW_some] <;> rfl) | (simp [*, errW_none, errW_some] <;> rfl), by repeat (first | (with_reducible first | exact HB.out | apply below_alloc | apply pw_below_drewN | apply below_drew1) | exact HB.out)⟩
    · rw [if_neg c4] at H
      have c4b0 : (a0.toList == ([] : List UInt8)) = false := beq_eq_false_iff_ne.mpr c4
      have c4b1 : (a0.toList != ([] : List UInt8)) = true := bne_iff_ne.mpr c4
      replace H := Option.bind_eq_some_iff.mp H
      obtain ⟨t337, A60, H⟩ := H
      replace H : (some (!t337)) = some r := H
      have A6 := Aside0.mk A60
      clear A60
      obtain rfl := Option.some.inj H
      go_enter Tryz.func52, Tryz.ntmps52
      go_wp2_with (first | ((with_reducible refine gate_callee (f := 18) rfl ?_); refine goesL_ (some 4) rfl rfl Tryz.func18 (by kernel_rfl) rfl #[.string a0] rfl (by (try simp only [List.map_toArray, List.map_cons, List.map_nil]); first | done | rfl | (simp only [List.length_drop, List.length_take]; rfl)) ?_; (with_reducible refine (impl_ValidText.calls k a0 true _ ?side1 A2.out).mono ?_); (case side1 => refine Glob.step hG_ ?_; repeat (first | (with_reducible first | exact HB.out | apply below_alloc | apply pw_below_drewN | apply below_drew1) | exact HB.out)); rintro e w7 ⟨rfl, hb⟩; refine ⟨_, rfl, ?_⟩; have n0_ := Aside0.mk (below_step (by repeat (first | (with_reducible first | exact HB.out | apply below_alloc | apply pw_below_drewN | apply below_drew1) | exact HB.out)) hb); clear HB; have HB := n0_; clear n0_; (try clear hb); (try clear hb2); (try clear hk); (try clear hi)) | (go_at_call 81; (with_reducible refine (strings_Contains.calls a0 (⟨#[32]⟩ : ByteArray) t337 _ ?side1 A6.out).mono ?_); (case side1 => refine Glob.step hG_ ?_; repeat (first | (with_reducible first | exact HB.out | apply below_alloc | apply pw_below_drewN | apply below_drew1) | exact HB.out)); rintro e w8 ⟨rfl, hb⟩; have n0_ := Aside0.mk (below_step (by repeat (first | (with_reducible first | exact HB.out | apply below_alloc | apply pw_below_drewN | apply below_drew1) | exact HB.out)) hb); clear HB; have HB := n0_; clear n0_; (try clear hb); (try clear hb2); (try clear hk); (try clear hi)))
      go_ret
      exact ⟨by first | rfl | (simp [errW_none, errW_some] <;> rfl) | (simp [*, errW_none, errW_some] <;> rfl), by repeat (first | (with_reducible first | exact HB.out | apply below_alloc | apply pw_below_drewN | apply below_drew1) | exact HB.out)⟩
  · replace c3 := Bool.eq_false_iff.mpr c3
    subst c3
    have H1 : (some false) = some r := by rw [if_neg (show ¬ (false = true) by decide)] at H; exact H
    clear H
    have H := H1
    clear H1
    obtain rfl := Option.some.inj H
    go_enter Tryz.func52, Tryz.ntmps52
    go_wp2_with (first | ((with_reducible refine gate_callee (f := 18) rfl ?_); refine goesL_ (some 4) rfl rfl Tryz.func18 (by kernel_rfl) rfl #[.string a0] rfl (by (try simp only [List.map_toArray, List.map_cons, List.map_nil]); first | done | rfl | (simp only [List.length_drop, List.length_take]; rfl)) ?_; (with_reducible refine (impl_ValidText.calls k a0 false _ ?side1 A2.out).mono ?_); (case side1 => refine Glob.step hG_ ?_; repeat (first | (with_reducible first | exact HB.out | apply below_alloc | apply pw_below_drewN | apply below_drew1) | exact HB.out)); rintro e w9 ⟨rfl, hb⟩; refine ⟨_, rfl, ?_⟩; have n0_ := Aside0.mk (below_step (by repeat (first | (with_reducible first | exact HB.out | apply below_alloc | apply pw_below_drewN | apply below_drew1) | exact HB.out)) hb); clear HB; have HB := n0_; clear n0_; (try clear hb); (try clear hb2); (try clear hk); (try clear hi)))
    go_ret
    exact ⟨by first | rfl | (simp [errW_none, errW_some] <;> rfl) | (simp [*, errW_none, errW_some] <;> rfl), by repeat (first | (with_reducible first | exact HB.out | apply below_alloc | apply pw_below_drewN | apply below_drew1) | exact HB.out)⟩

end Go.Proofs.YtimkkjkgbbfgbaaGreatDoor.Q
end
section
/- Words: program and reference alike. -/
namespace Go.Proofs.YtimkkjkgbbfgbaaGreatDoor.Q
open Go.RowKit Go.Proofs.YtimkkjkgbbfgbaaGreatDoorW.PrintWords Go.Proofs.YtimkkjkgbbfgbaaGreatDoorW.PrintLast Go.Proofs.YtimkkjkgbbfgbaaGreatDoorW.PrintMore
open Go.Proofs.YtimkkjkgbbfgbaaGreatDoor.Pure
set_option linter.unusedVariables false

theorem contains_one (l : List UInt8) (c : UInt8) : Lib.contains l [c] = true ↔ ∃ i : Nat, l[i]? = some c := by
  have occ : ∀ i, Lib.occAt l [c] i = true ↔ l[i]? = some c := by
    intro i
    unfold Lib.occAt
    have e0 : (l.drop i)[0]? = l[i]? := by rw [List.getElem?_drop]; rfl
    rw [← e0]
    rcases l.drop i with _ | ⟨x, t⟩
    · simp [List.isPrefixOf]
    · simp only [List.isPrefixOf, Bool.and_true, beq_iff_eq, List.getElem?_cons_zero, Option.some.injEq]
      exact ⟨fun h => h.symm, fun h => h.symm⟩
  unfold Lib.contains
  rw [decide_eq_true_eq]
  rcases Lib.index_spec l [c] with ⟨h, hn⟩ | ⟨i, h, hi, ho, _⟩
  · rw [h]
    refine ⟨fun h => absurd h (by decide), fun ⟨i, h1⟩ => ?_⟩
    have := hn i (by have := (List.getElem?_eq_some_iff.1 h1).1; omega)
    rw [(occ i).2 h1] at this
    cases this
  · rw [h]
    exact ⟨fun _ => ⟨i, (occ i).1 ho⟩, fun _ => by omega⟩

theorem impl_ValidText.valM (a : ByteArray) (k : Nat) (hk : 61 ≤ k) : impl_ValidText.f k a = some (textB a) := by
  by_cases h : a.size ≤ 60
  · exact at_rounds (impl_ValidText.mono a) (by omega) (impl_ValidText.val a (by omega))
  · unfold impl_ValidText.f textB
    rw [if_neg (by omega)]
    simp [show ¬ ((a.size : Int) ≤ 60) by omega]

/-- Letters, one or more. -/
def wordB (a : ByteArray) : Bool := (List.range a.size).all (fun i => isL (bt a i)) && decide (0 < a.size)

theorem empty_size (a : ByteArray) : a.toList = [] ↔ a.size = 0 := by
  rw [ByteArray.toList_eq, ← data_length, List.length_eq_zero_iff]

theorem text_word (a : ByteArray) (h0 : a.size ≠ 0) : (textB a && !Lib.contains a.data.toList [32]) = (wordB a && decide ((a.size : Int) ≤ 60)) := by
  have c32 : ((32 : UInt8).toNat : Int) = 32 := by decide
  have h32 : isL 32 = false := by decide
  rw [Bool.eq_iff_iff]
  unfold textB wordB
  simp only [Bool.and_eq_true, Bool.not_eq_true', List.all_eq_true, List.mem_range, decide_eq_true_iff, okAt]
  constructor
  · rintro ⟨⟨h1, h2⟩, h3⟩
    refine ⟨⟨fun i hi => ?_, by omega⟩, h2⟩
    have := h1 i hi
    by_cases hb : bt a i = 32
    · have : Lib.contains a.data.toList [32] = true := (contains_one _ _).2 ⟨i, (bt_list a i hi 32).2 (by rw [c32]; exact hb)⟩
      rw [this] at h3
      cases h3
    · rw [if_neg hb] at this
      exact this
  · rintro ⟨⟨h1, _⟩, h2⟩
    refine ⟨⟨fun i hi => ?_, h2⟩, ?_⟩
    · have := h1 i hi
      rw [if_neg (fun hb => by rw [hb, h32] at this; cases this)]
      exact this
    · rw [Bool.eq_false_iff]
      intro h
      obtain ⟨i, hi⟩ := (contains_one _ _).1 h
      have hl : i < a.size := by have := (List.getElem?_eq_some_iff.1 hi).1; rw [list_len] at this; exact this
      have := (bt_list a i hl 32).1 hi
      have h4 := h1 i hl
      rw [this, c32, h32] at h4
      cases h4

theorem impl_isWord.valM (a : ByteArray) (k : Nat) (hk : 61 ≤ k) : impl_isWord.f k a = some (wordB a && decide ((a.size : Int) ≤ 60)) := by
  unfold impl_isWord.f
  rw [impl_ValidText.valM a k hk]
  simp only [Option.bind_some]
  by_cases h0 : a.size = 0
  · rw [if_pos ((empty_size a).2 h0)]
    simp [wordB, h0]
  · rw [if_neg (fun h => h0 ((empty_size a).1 h)), ← text_word a h0]
    cases ht : textB a
    · simp
    · have h60 : (a.size : Int) ≤ 60 := by
        unfold textB at ht
        simp only [Bool.and_eq_true, decide_eq_true_iff] at ht
        exact ht.2
      unfold strings_Contains.f
      rw [if_pos rfl, if_pos (by omega)]
      simp

end Go.Proofs.YtimkkjkgbbfgbaaGreatDoor.Q
end
section
-- WRITTEN BY A PROGRAM OF THIS SESSION (xprint.py, which runs the kit's printer with changes). Lean checks it.
namespace Go.Proofs.YtimkkjkgbbfgbaaGreatDoor.Q
open Go.RowKit Go.Proofs.YtimkkjkgbbfgbaaGreatDoorW.PrintWords Go.Proofs.YtimkkjkgbbfgbaaGreatDoorW.PrintLast Go.Proofs.YtimkkjkgbbfgbaaGreatDoorW.PrintMore
set_option linter.unusedVariables false
set_option linter.unusedSimpArgs false
attribute [local go_sem] max2_int min2_int max_two min_two max_three min_three max_four min_four   -- for this text's walks alone
/-! ### spec_WordsOf: function 13 -/
def spec_WordsOf.f (k : Nat) (a0 : ByteArray) : Option (List ByteArray × Int) := (spec_l01Text.f k a0).bind fun t292 => (if t292 = true then ((spec_l01Words.f k a0).bind fun t293 => (some (t293, 0))) else (some ((([] : List ByteArray)), 1)))
theorem spec_WordsOf.mono : ∀ a0 k, LeO (spec_WordsOf.f k a0) (spec_WordsOf.f (k + 1) a0) := by
  intro a0 k
  unfold spec_WordsOf.f
  repeat' first
      | (with_reducible exact spec_l01Text.mono _ _)
      | (with_reducible exact spec_l01Words.mono _ _)
      | (with_reducible exact LeO.refl _)
      | (with_reducible exact LeO.none _)
      | (with_reducible refine LeO.ite ?_ ?_)
      | (with_reducible refine LeO.bind ?_ (fun _ => ?_))
      | exact spec_l01Text.mono _ _
      | exact spec_l01Words.mono _ _
      | exact LeO.none _
      | refine LeO.ite ?_ ?_
      | refine LeO.bind ?_ (fun _ => ?_)
set_option maxHeartbeats 8000000 in
set_option maxRecDepth 100000 in
theorem spec_WordsOf.calls (k : Nat) (a0 : ByteArray) (r1 : List ByteArray) (r2 : Int) (w : World) (h : spec_WordsOf.f k a0 = some (r1, r2)) :
    Calls Tryz.prog 13 #[.string a0] w fun e w' => ∃ v0_ : Value, e = .returned (.tuple #[v0_, .int .i64 r2]) ∧ Kd.R Kd.string 9 w' w.heap.size (fun _ => True) v0_ r1 ∧ Below w.heap.size w w' := by
  have HB := Aside0.mk (Below.refl w.heap.size w)
  have H : ((spec_l01Text.f k a0).bind fun t292 => (if t292 = true then ((spec_l01Words.f k a0).bind fun t293 => (some (t293, 0))) else (some ((([] : List ByteArray)), 1)))) = some (r1, r2) := h
  clear h
  replace H := Option.bind_eq_some_iff.mp H
  obtain ⟨t292, A20, H⟩ := H
  replace H : (if t292 = true then ((spec_l01Words.f k a0).bind fun t293 => (some (t293, 0))) else (some ((([] : List ByteArray)), 1))) = some (r1, r2) := H
  have A2 := Aside0.mk A20
  clear A20
  by_cases c3 : t292 = true
  · subst c3
    have H1 : ((spec_l01Words.f k a0).bind fun t293 => (some (t293, 0))) = some (r1, r2) := by rw [if_pos rfl] at H; exact H
    clear H
    have H := H1
    clear H1
    replace H := Option.bind_eq_some_iff.mp H
    obtain ⟨t293, A40, H⟩ := H
    replace H : (some (t293, 0)) = some (r1, r2) := H
    have A4 := Aside0.mk A40
    clear A40
    simp only [Option.some.injEq, Prod.mk.injEq] at H
    obtain ⟨rfl, rfl⟩ := H
    go_enter Tryz.func13, Tryz.ntmps13
    go_wp2_with (first | ((with_reducible refine gate_callee (f := 48) rfl ?_); refine goesL_ (some 5) rfl rfl Tryz.func48 (by kernel_rfl) rfl #[.string a0] rfl (by (try simp only [List.map_toArray, List.map_cons, List.map_nil]); first | done | rfl | (simp only [List.length_drop, List.length_take]; rfl)) ?_; (with_reducible refine (spec_l01Text.calls k a0 true _ A2.out).mono ?_); rintro e w' ⟨rfl, ⟨nd, rfl⟩⟩; refine ⟨_, rfl, ?_⟩) | ((with_reducible refine gate_callee (f := 49) rfl ?_); refine goesL_ (some 9) rfl rfl Tryz.func49 (by kernel_rfl) rfl #[.string a0] rfl (by (try simp only [List.map_toArray, List.map_cons, List.map_nil]); first | done | rfl | (simp only [List.length_drop, List.length_take]; rfl)) ?_; (with_reducible refine (spec_l01Words.calls k a0 t293 _ A4.out).mono ?_); rintro e w5 ⟨v294, rfl, ho0, hb⟩; refine ⟨_, rfl, ?_⟩; have n0_ := Aside0.mk (Kd.R_lower ho0 (below_size (by repeat (first | (with_reducible first | exact HB.out | apply below_alloc | apply pw_below_drewN | apply below_drew1) | exact HB.out)))); have n1_ := Aside0.mk (below_step (by repeat (first | (with_reducible first | exact HB.out | apply below_alloc | apply pw_below_drewN | apply below_drew1) | exact HB.out)) hb); clear HB; have HO295 := n0_; have HB := n1_; clear n0_ n1_; (try clear hb); (try clear hb2); (try clear hk); (try clear hi); (try clear ho0)))
    go_ret2
    exact ⟨_, by first | rfl | (simp [errW_none, errW_some] <;> rfl) | (simp [*, errW_none, errW_some] <;> rfl), by (with_reducible repeat (first | apply Kd.R_alloc | apply Kd.R_drewN | apply Kd.R_drew)); exact HO295.out, by repeat (first | (with_reducible first | exact HB.out | apply below_alloc | apply pw_below_drewN | apply below_drew1) | exact HB.out)⟩
  · replace c3 := Bool.eq_false_iff.mpr c3
    subst c3
    have H1 : (some ((([] : List ByteArray)), 1)) = some (r1, r2) := by rw [if_neg (show ¬ (false = true) by decide)] at H; exact H
    clear H
    have H := H1
    clear H1
    obtain ⟨y296, hy296⟩ : ∃ y_ : List ByteArray, y_ = (([] : List ByteArray)) := ⟨_, rfl⟩
    replace H : (some (y296, 1)) = some (r1, r2) := by first | (rw [hy296]; with_reducible exact H) | (have H2_ := (Option.bind_some _ _).symm.trans H; rw [hy296]; with_reducible exact H2_) | (have H2_ := (Option.bind_some _ _).symm.trans H; with_reducible exact H2_) | with_reducible exact H | (rw [hy296]; exact H) | exact H
    have Ny296 := Aside0.mk hy296
    clear hy296
    simp only [Option.some.injEq, Prod.mk.injEq] at H
    obtain ⟨rfl, rfl⟩ := H
    go_enter Tryz.func13, Tryz.ntmps13
    go_wp2_with (first | ((with_reducible refine gate_callee (f := 48) rfl ?_); refine goesL_ (some 5) rfl rfl Tryz.func48 (by kernel_rfl) rfl #[.string a0] rfl (by (try simp only [List.map_toArray, List.map_cons, List.map_nil]); first | done | rfl | (simp only [List.length_drop, List.length_take]; rfl)) ?_; (with_reducible refine (spec_l01Text.calls k a0 false _ A2.out).mono ?_); rintro e w' ⟨rfl, ⟨nd, rfl⟩⟩; refine ⟨_, rfl, ?_⟩) | ((with_reducible refine gate_dst (N := 7) rfl ?_); refine Kd.R_lit Kd.string _ 9 ?hg (N := 7) ?hd (xs := ([] : List ByteArray)) (inner := []) (ok := fun _ => True) (okp := fun _ => True) ?hr ?hp (fun _ hk => hk) trivial (Below.refl _ _) (Nat.le_refl _) (by simp) ?_; (case hd => rfl); (case hg => rfl); (case hr => first | (go_simp; done) | (go_simp; rfl)); (case hp => exact (Reps.none _ _)); intro v297 w6 ho7 hb hg_ hnew_; clear hg_ hnew_; (first | rw [← Ny296.out] at ho7 | (simp only [Int.reduceToNat] at ho7; rw [← Ny296.out] at ho7)); have n0_ := Aside0.mk (Kd.R_lower ho7 (below_size (by repeat (first | (with_reducible first | exact HB.out | apply below_alloc | apply pw_below_drewN | apply below_drew1) | exact HB.out)))); have n1_ := Aside0.mk (below_step (by repeat (first | (with_reducible first | exact HB.out | apply below_alloc | apply pw_below_drewN | apply below_drew1) | exact HB.out)) hb); clear HB; have HO298 := n0_; have HB := n1_; clear n0_ n1_; clear hb ho7))
    go_ret2
    exact ⟨_, by first | rfl | (simp [errW_none, errW_some] <;> rfl) | (simp [*, errW_none, errW_some] <;> rfl), by (with_reducible repeat (first | apply Kd.R_alloc | apply Kd.R_drewN | apply Kd.R_drew)); exact HO298.out, by repeat (first | (with_reducible first | exact HB.out | apply below_alloc | apply pw_below_drewN | apply below_drew1) | exact HB.out)⟩

end Go.Proofs.YtimkkjkgbbfgbaaGreatDoor.Q
end
section
-- WRITTEN BY A PROGRAM OF THIS SESSION (xprint.py, which runs the kit's printer with changes). Lean checks it.
namespace Go.Proofs.YtimkkjkgbbfgbaaGreatDoor.Q
open Go.RowKit Go.Proofs.YtimkkjkgbbfgbaaGreatDoorW.PrintWords Go.Proofs.YtimkkjkgbbfgbaaGreatDoorW.PrintLast Go.Proofs.YtimkkjkgbbfgbaaGreatDoorW.PrintMore
set_option linter.unusedVariables false
set_option linter.unusedSimpArgs false
attribute [local go_sem] max2_int min2_int max_two min_two max_three min_three max_four min_four   -- for this text's walks alone
/-! ### impl_WordsOf: function 12 -/
def impl_WordsOf.f (k : Nat) (a0 : ByteArray) : Option (List ByteArray × Int) := (impl_ValidText.f k a0).bind fun t272 => (if t272 = true then ((strings_Fields.f a0).bind fun t273 => (some (t273, 0))) else (some (([] : List ByteArray), 1)))
theorem impl_WordsOf.mono : ∀ a0 k, LeO (impl_WordsOf.f k a0) (impl_WordsOf.f (k + 1) a0) := by
  intro a0 k
  unfold impl_WordsOf.f
  repeat' first
      | (with_reducible exact impl_ValidText.mono _ _)
      | (with_reducible exact LeO.refl _)
      | (with_reducible exact LeO.none _)
      | (with_reducible refine LeO.ite ?_ ?_)
      | (with_reducible refine LeO.bind ?_ (fun _ => ?_))
      | exact impl_ValidText.mono _ _
      | exact LeO.none _
      | refine LeO.ite ?_ ?_
      | refine LeO.bind ?_ (fun _ => ?_)
set_option maxHeartbeats 8000000 in
set_option maxRecDepth 100000 in
theorem impl_WordsOf.calls (k : Nat) (a0 : ByteArray) (r1 : List ByteArray) (r2 : Int) (w : World) (hG_ : GlobF w) (h : impl_WordsOf.f k a0 = some (r1, r2)) :
    Calls Tryz.prog 12 #[.string a0] w fun e w' => ∃ v0_ : Value, e = .returned (.tuple #[v0_, .int .i64 r2]) ∧ Kd.R Kd.string 9 w' w.heap.size (fun _ => True) v0_ r1 ∧ Below w.heap.size w w' := by
  have HB := Aside0.mk (Below.refl w.heap.size w)
  have H : ((impl_ValidText.f k a0).bind fun t272 => (if t272 = true then ((strings_Fields.f a0).bind fun t273 => (some (t273, 0))) else (some (([] : List ByteArray), 1)))) = some (r1, r2) := h
  clear h
  replace H := Option.bind_eq_some_iff.mp H
  obtain ⟨t272, A20, H⟩ := H
  replace H : (if t272 = true then ((strings_Fields.f a0).bind fun t273 => (some (t273, 0))) else (some (([] : List ByteArray), 1))) = some (r1, r2) := H
  have A2 := Aside0.mk A20
  clear A20
  by_cases c3 : t272 = true
  · subst c3
    have H1 : ((strings_Fields.f a0).bind fun t273 => (some (t273, 0))) = some (r1, r2) := by rw [if_pos rfl] at H; exact H
    clear H
    have H := H1
    clear H1
    replace H := Option.bind_eq_some_iff.mp H
    obtain ⟨t273, A40, H⟩ := H
    replace H : (some (t273, 0)) = some (r1, r2) := H
    have A4 := Aside0.mk A40
    clear A40
    simp only [Option.some.injEq, Prod.mk.injEq] at H
    obtain ⟨rfl, rfl⟩ := H
    go_enter Tryz.func12, Tryz.ntmps12
    go_wp2_with (first | ((with_reducible refine gate_callee (f := 18) rfl ?_); refine goesL_ (some 5) rfl rfl Tryz.func18 (by kernel_rfl) rfl #[.string a0] rfl (by (try simp only [List.map_toArray, List.map_cons, List.map_nil]); first | done | rfl | (simp only [List.length_drop, List.length_take]; rfl)) ?_; (with_reducible refine (impl_ValidText.calls k a0 true _ ?side1 A2.out).mono ?_); (case side1 => refine Glob.step hG_.glob ?_; repeat (first | (with_reducible first | exact HB.out | apply below_alloc | apply pw_below_drewN | apply below_drew1) | exact HB.out)); rintro e w5 ⟨rfl, hb⟩; refine ⟨_, rfl, ?_⟩; have n0_ := Aside0.mk (below_step (by repeat (first | (with_reducible first | exact HB.out | apply below_alloc | apply pw_below_drewN | apply below_drew1) | exact HB.out)) hb); clear HB; have HB := n0_; clear n0_; (try clear hb); (try clear hb2); (try clear hk); (try clear hi)) | ((with_reducible refine gate_callee (f := 33) rfl ?_); refine goesL_ (some 8) rfl rfl Tryz.func33 (by kernel_rfl) rfl #[.string a0] rfl (by (try simp only [List.map_toArray, List.map_cons, List.map_nil]); first | done | rfl | (simp only [List.length_drop, List.length_take]; rfl)) ?_; (with_reducible refine (strings_Fields.calls a0 t273 _ ?side1 A4.out).mono ?_); (case side1 => refine GlobF.step hG_ ?_; repeat (first | (with_reducible first | exact HB.out | apply below_alloc | apply pw_below_drewN | apply below_drew1) | exact HB.out)); rintro e w6 ⟨v274, rfl, ho0, hb⟩; refine ⟨_, rfl, ?_⟩; have n0_ := Aside0.mk (Kd.R_lower ho0 (below_size (by repeat (first | (with_reducible first | exact HB.out | apply below_alloc | apply pw_below_drewN | apply below_drew1) | exact HB.out)))); have n1_ := Aside0.mk (below_step (by repeat (first | (with_reducible first | exact HB.out | apply below_alloc | apply pw_below_drewN | apply below_drew1) | exact HB.out)) hb); clear HB; have HO275 := n0_; have HB := n1_; clear n0_ n1_; (try clear hb); (try clear hb2); (try clear hk); (try clear hi); (try clear ho0)))
    go_ret2
    exact ⟨_, by first | rfl | (simp [errW_none, errW_some] <;> rfl) | (simp [*, errW_none, errW_some] <;> rfl), by (with_reducible repeat (first | apply Kd.R_alloc | apply Kd.R_drewN | apply Kd.R_drew)); exact HO275.out, by repeat (first | (with_reducible first | exact HB.out | apply below_alloc | apply pw_below_drewN | apply below_drew1) | exact HB.out)⟩
  · replace c3 := Bool.eq_false_iff.mpr c3
    subst c3
    have H1 : (some (([] : List ByteArray), 1)) = some (r1, r2) := by rw [if_neg (show ¬ (false = true) by decide)] at H; exact H
    clear H
    have H := H1
    clear H1
    simp only [Option.some.injEq, Prod.mk.injEq] at H
    obtain ⟨rfl, rfl⟩ := H
    go_enter Tryz.func12, Tryz.ntmps12
    go_wp2_with (first | ((with_reducible refine gate_callee (f := 18) rfl ?_); refine goesL_ (some 5) rfl rfl Tryz.func18 (by kernel_rfl) rfl #[.string a0] rfl (by (try simp only [List.map_toArray, List.map_cons, List.map_nil]); first | done | rfl | (simp only [List.length_drop, List.length_take]; rfl)) ?_; (with_reducible refine (impl_ValidText.calls k a0 false _ ?side1 A2.out).mono ?_); (case side1 => refine Glob.step hG_.glob ?_; repeat (first | (with_reducible first | exact HB.out | apply below_alloc | apply pw_below_drewN | apply below_drew1) | exact HB.out)); rintro e w7 ⟨rfl, hb⟩; refine ⟨_, rfl, ?_⟩; have n0_ := Aside0.mk (below_step (by repeat (first | (with_reducible first | exact HB.out | apply below_alloc | apply pw_below_drewN | apply below_drew1) | exact HB.out)) hb); clear HB; have HB := n0_; clear n0_; (try clear hb); (try clear hb2); (try clear hk); (try clear hi)))
    go_ret2
    exact ⟨_, by first | rfl | (simp [errW_none, errW_some] <;> rfl) | (simp [*, errW_none, errW_some] <;> rfl), by first | exact Kd.R_nil _ _ _ _ _ | exact Kd.N_nil _ _ _ _ _ | exact Kd.V_nil _ _ _ _ _ | exact Kd.Q_nil _ _ _ _ _ | exact Kd.S_nil _ _ _ _ _, by repeat (first | (with_reducible first | exact HB.out | apply below_alloc | apply pw_below_drewN | apply below_drew1) | exact HB.out)⟩

end Go.Proofs.YtimkkjkgbbfgbaaGreatDoor.Q
end
