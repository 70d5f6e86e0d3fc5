/- A system, read from its text: to split, parse and check it is to read it loosely and to tell it again. -/
import Derived.Test.YtdhhnkhgmoblhaaDoorQhandSysText
import Derived.Test.YtdhhnkhgmoblhaaDoorQpureRS
import Derived.Shelf.Strings.FieldsAny
namespace Go.Proofs.YtdhhnkhgmoblhaaDoor.Q
open Go.RowKit Go.Proofs.YtdhhnkhgmoblhaaDoorW.PrintWords Go.Proofs.YtdhhnkhgmoblhaaDoorW.PrintLast Go.Proofs.YtdhhnkhgmoblhaaDoorW.PrintMore
open Go.Proofs.YtdhhnkhgmoblhaaDoor.Pure Go.Lib
set_option linter.unusedVariables false
set_option linter.unusedSimpArgs false

def allM {α β : Type} (f : α → Option β) : List α → Option (List β)
  | [] => some []
  | x :: r => (f x).bind fun y => (allM f r).map fun q => y :: q
theorem allM_some {α β : Type} (f : α → Option β) : ∀ (l : List α) (r : List β), allM f l = some r → l.map f = r.map some := by
  intro l
  induction l with
  | nil => intro r h; simp [allM] at h; subst h; rfl
  | cons x l ih =>
    intro r h
    rw [allM] at h
    cases hx : f x with
    | none => rw [hx] at h; cases h
    | some y =>
      rw [hx, Option.bind_some] at h
      cases hl : allM f l with
      | none => rw [hl] at h; cases h
      | some q =>
        rw [hl] at h
        cases h
        rw [List.map_cons, List.map_cons, hx, ih q hl]
theorem allM_of {α β : Type} (f : α → Option β) (g : β → α) : ∀ (r : List β), (∀ y ∈ r, f (g y) = some y) → allM f (r.map g) = some r := by
  intro r
  induction r with
  | nil => intro _; rfl
  | cons y r ih =>
    intro h
    rw [List.map_cons, allM, h y (List.mem_cons_self ..), Option.bind_some, ih (fun z hz => h z (List.mem_cons_of_mem _ hz))]
    rfl
theorem allM_back {α β : Type} (f : α → Option β) (g : β → α) (hfg : ∀ x y, f x = some y → x = g y) (l : List α) (r : List β) (h : allM f l = some r) : l = r.map g := by
  have := allM_some f l r h
  clear h
  induction l generalizing r with
  | nil => cases r with
    | nil => rfl
    | cons y r => simp at this
  | cons x l ih =>
    cases r with
    | nil => simp at this
    | cons y r =>
      simp only [List.map_cons, List.cons.injEq] at this
      rw [List.map_cons, ih r this.2, hfg x y this.1]
theorem allM_len {α β : Type} (f : α → Option β) (l : List α) (r : List β) (h : allM f l = some r) : r.length = l.length := by
  have := congrArg List.length (allM_some f l r h)
  simpa using this.symm

/-- A number of digits, as the reference reads it. -/
def numL (l : List UInt8) : Option Nat := if l = [] ∨ 10 < l.length ∨ (l.head? = some 48 ∧ 1 < l.length) then none else valD 0 l
def sgS : List UInt8 → Option SG
  | [] => none
  | c :: r => (numL r).bind fun n => if n ≤ 5000 then some ⟨(c.toNat : Int), (n : Int)⟩ else none
/-- .. as the program reads it. -/
def numI (l : List UInt8) : Option Int := match parseIntB 64 l with
  | .ok n => if itoa n = l ∧ 0 ≤ n ∧ n ≤ 5000 then some n else none
  | _ => none
def sgI : List UInt8 → Option SG
  | [] => none
  | c :: r => (numI r).bind fun n => some ⟨(c.toNat : Int), n⟩
def mpS : List UInt8 → Option MP
  | [a, b] => some ⟨(a.toNat : Int), (b.toNat : Int)⟩
  | _ => none
def sgL (x : SG) : List UInt8 := UInt8.ofNat x.f0.toNat :: decDigits x.f1.toNat
def mpL (x : MP) : List UInt8 := [UInt8.ofNat x.f0.toNat, UInt8.ofNat x.f1.toNat]
def toldL (s : List SG) (m : List MP) : List UInt8 := Lib.join (s.map sgL) [32] ++ 59 :: Lib.join (m.map mpL) [32]
def specRS (t : List UInt8) : Option (List SG × List MP) := match cutAt 59 [] t with
  | [A, B] => (allM sgS (cutAt 32 [] A)).bind fun s => (allM mpS (if B = [] then [] else cutAt 32 [] B)).bind fun m => if okB s m = true then some (s, m) else none
  | _ => none
def implRS (t : List UInt8) : Option (List SG × List MP) :=
  (allM sgI (fieldsD (Lib.cut t [59]).1)).bind fun s => (allM mpS (fieldsD (Lib.cut t [59]).2.1)).bind fun m => if t ≠ [] ∧ (textOf s m).data.toList = t then some (s, m) else none

theorem ofNat_byte (b : UInt8) : UInt8.ofNat b.toNat = b := by simp
theorem sgS_back (x : List UInt8) (y : SG) (h : sgS x = some y) : x = sgL y := by
  cases x with
  | nil => cases h
  | cons c r =>
    rw [sgS] at h
    unfold numL at h
    split at h
    · cases h
    · rename_i hc
      rw [not_or, not_or] at hc
      cases hv : valD 0 r with
      | none => rw [hv] at h; cases h
      | some n =>
        rw [hv, Option.bind_some] at h
        split at h
        · cases h
          unfold sgL
          have e1 : ((c.toNat : Int)).toNat = c.toNat := by omega
          have e2 : ((n : Int)).toNat = n := by omega
          simp only [e1, e2]
          rw [ofNat_byte]
          congr 1
          refine val_dec (r.length - 1) r n ?_ hv ?_
          · have := List.length_pos_iff.2 hc.1; omega
          · intro hl b q e hb
            refine hc.2.2 ⟨?_, hl⟩
            rw [e]
            show some b = some 48
            congr 1
            exact UInt8.toNat_inj.1 hb
        · cases h
theorem mpS_back (x : List UInt8) (y : MP) (h : mpS x = some y) : x = mpL y := by
  unfold mpS at h
  split at h
  · rename_i a b
    cases h
    unfold mpL
    have e1 : ((a.toNat : Int)).toNat = a.toNat := by omega
    have e2 : ((b.toNat : Int)).toNat = b.toNat := by omega
    simp only [e1, e2]
    rw [ofNat_byte, ofNat_byte]
  · cases h

def fitSG (x : SG) : Prop := 65 ≤ x.f0 ∧ x.f0 ≤ 90 ∧ 0 ≤ x.f1 ∧ x.f1 ≤ 5000
def fitMP (x : MP) : Prop := 65 ≤ x.f0 ∧ x.f0 ≤ 90 ∧ 65 ≤ x.f1 ∧ x.f1 ≤ 90
theorem byte_fit {x : Int} (h0 : 65 ≤ x) (h1 : x ≤ 90) : (UInt8.ofNat x.toNat).toNat = x.toNat := by
  rw [UInt8.toNat_ofNat']
  omega
theorem sgS_of (x : SG) (h : fitSG x) : sgS (sgL x) = some x := by
  obtain ⟨h0, h1, h2, h3⟩ := h
  unfold sgL
  rw [sgS]
  have hl : (decDigits x.f1.toNat).length ≤ 4 := decDigits_len x.f1.toNat 3 (by omega)
  unfold numL
  rw [if_neg, dec_val, Option.bind_some, if_pos (by omega), byte_fit h0 h1]
  · congr 1
    have e1 : (x.f0.toNat : Int) = x.f0 := by omega
    have e2 : (x.f1.toNat : Int) = x.f1 := by omega
    rw [e1, e2]
  · rintro (h | h | ⟨h, hl2⟩)
    · exact dec_ne _ h
    · omega
    · by_cases h9 : x.f1.toNat = 0
      · rw [h9, decDigits_one (by decide)] at hl2
        simp at hl2
      · obtain ⟨b, r, e, hb⟩ := dec_head _ h9
        rw [e] at h
        cases h
        exact hb rfl
theorem sgI_of (x : SG) (h : fitSG x) : sgI (sgL x) = some x := by
  obtain ⟨h0, h1, h2, h3⟩ := h
  unfold sgL
  rw [sgI]
  unfold numI
  have e2 : (x.f1.toNat : Int) = x.f1 := by omega
  rw [parse_dec _ (by omega)]
  simp only
  rw [if_pos ⟨by rw [Lib.itoa_nonneg], by omega, by omega⟩, Option.bind_some, byte_fit h0 h1]
  congr 1
  have e1 : (x.f0.toNat : Int) = x.f0 := by omega
  rw [e1, e2]
theorem mpS_of (x : MP) (h : fitMP x) : mpS (mpL x) = some x := by
  obtain ⟨h0, h1, h2, h3⟩ := h
  unfold mpL
  rw [mpS, byte_fit h0 h1, byte_fit h2 h3]
  congr 1
  have e1 : (x.f0.toNat : Int) = x.f0 := by omega
  have e2 : (x.f1.toNat : Int) = x.f1 := by omega
  rw [e1, e2]
theorem sgL_plain (x : SG) (h : fitSG x) : sgL x ≠ [] ∧ ∀ b ∈ sgL x, 48 ≤ b.toNat ∧ b.toNat ≤ 90 ∧ b.toNat ≠ 59 := by
  obtain ⟨h0, h1, h2, h3⟩ := h
  unfold sgL
  refine ⟨by simp, fun b hb => ?_⟩
  rcases List.mem_cons.1 hb with rfl | hb
  · rw [byte_fit h0 h1]; omega
  · have := dec_digit _ b hb; omega
theorem mpL_plain (x : MP) (h : fitMP x) : mpL x ≠ [] ∧ ∀ b ∈ mpL x, 48 ≤ b.toNat ∧ b.toNat ≤ 90 ∧ b.toNat ≠ 59 := by
  obtain ⟨h0, h1, h2, h3⟩ := h
  unfold mpL
  refine ⟨by simp, fun b hb => ?_⟩
  rcases List.mem_cons.1 hb with rfl | hb
  · rw [byte_fit h0 h1]; omega
  · rw [List.mem_singleton] at hb
    subst hb
    rw [byte_fit h2 h3]; omega

theorem valB_mem {s : List SG} {c : Int} (h : valB s c ≠ 0) : ∃ x ∈ s, x.f0 = c := by
  unfold valB at h
  cases hf : s.find? (fun x => decide (x.f0 = c)) with
  | none => rw [hf] at h; exact absurd rfl h
  | some x => exact ⟨x, List.mem_of_find?_eq_some hf, of_decide_eq_true (List.find?_some (p := fun (x : SG) => decide (x.f0 = c)) hf)⟩
theorem ok_fit {s : List SG} {m : List MP} (h : okB s m = true) : s ≠ [] ∧ (∀ x ∈ s, fitSG x) ∧ ∀ x ∈ m, fitMP x := by
  unfold okB headB at h
  simp only [Bool.and_eq_true, decide_eq_true_iff, List.all_eq_true] at h
  have hs : ∀ x ∈ s, fitSG x := by
    intro x hx
    obtain ⟨i, hi, rfl⟩ := List.getElem_of_mem hx
    have := h.1.2 i (List.mem_range.2 hi)
    unfold sgB letB rngB at this
    rw [rdSG_get _ _ hi] at this
    simp only [Bool.and_eq_true, decide_eq_true_iff] at this
    unfold fitSG
    omega
  refine ⟨fun e => by have := h.1.1.1.1.1; rw [e] at this; simp at this, hs, ?_⟩
  intro x hx
  obtain ⟨i, hi, rfl⟩ := List.getElem_of_mem hx
  have := h.2 i (List.mem_range.2 hi)
  unfold mpB at this
  rw [rdA2_get _ _ hi] at this
  simp only [Bool.and_eq_true, decide_eq_true_iff] at this
  obtain ⟨y, hy, e1⟩ := valB_mem this.1.1
  have hf1 := hs y hy
  have h2 : valB s m[i].f1 ≠ 0 := by
    intro e
    rw [e] at this
    have hlt := this.1.2
    -- the value of a letter of a sign is none below zero
    unfold valB at hlt
    cases hf : s.find? (fun x => decide (x.f0 = m[i].f0)) with
    | none => rw [hf] at hlt; simp at hlt
    | some z =>
      rw [hf] at hlt
      have := hs z (List.mem_of_find?_eq_some hf)
      unfold fitSG at this
      simp at hlt
      omega
  obtain ⟨z, hz, e2⟩ := valB_mem h2
  have hf2 := hs z hz
  unfold fitSG at hf1 hf2
  unfold fitMP
  omega

theorem told_list (s : List SG) (m : List MP) (hs : ∀ x ∈ s, fitSG x) : (toldT s m).data.toList = toldL s m := by
  unfold toldT toldL
  have e1 : (s.map sgT).map (fun x => x.data.toList) = s.map sgL := by
    rw [List.map_map]
    apply List.map_congr_left
    intro x hx
    have hx := hs x hx
    unfold fitSG at hx
    show (sgT x).data.toList = _
    unfold sgT itoaB sgL
    have e2 : itoa x.f1 = decDigits x.f1.toNat := by
      have : x.f1 = (x.f1.toNat : Int) := by omega
      conv => lhs; rw [this]
      rw [Lib.itoa_nonneg]
    rw [e2, ByteArray.data_append, Array.toList_append, strOfNums_data]
    rfl
  have e2 : (m.map mpT).map (fun x => x.data.toList) = m.map mpL := by
    rw [List.map_map]
    apply List.map_congr_left
    intro x hx
    rfl
  rw [ByteArray.data_append, Array.toList_append, ByteArray.data_append, Array.toList_append]
  unfold joinB
  show Lib.join ((s.map sgT).map (fun x => x.data.toList)) [32] ++ [59] ++ Lib.join ((m.map mpT).map (fun x => x.data.toList)) [32] = _
  rw [e1, e2, List.append_assoc]
  rfl
theorem join_none (c : UInt8) (hc : c ≠ 32) : ∀ ws : List (List UInt8), (∀ w ∈ ws, c ∉ w) → c ∉ Lib.join ws [32] := by
  intro ws
  induction ws with
  | nil => intro _; rw [join_nil]; exact List.not_mem_nil
  | cons x r ih =>
    intro h
    cases r with
    | nil => rw [join_one]; exact h x (List.mem_cons_self ..)
    | cons y r =>
      rw [join_cons2, List.mem_append, List.mem_append, List.mem_singleton]
      rintro (h1 | h1 | h1)
      · exact h x (List.mem_cons_self ..) h1
      · exact hc h1
      · exact ih (fun w hw => h w (List.mem_cons_of_mem _ hw)) h1
theorem join_ascii : ∀ ws : List (List UInt8), (∀ w ∈ ws, ∀ b ∈ w, b.toNat < 128) → ∀ b ∈ Lib.join ws [32], b.toNat < 128 := by
  intro ws
  induction ws with
  | nil => intro _ b hb; rw [join_nil] at hb; cases hb
  | cons x r ih =>
    intro h b hb
    cases r with
    | nil => rw [join_one] at hb; exact h x (List.mem_cons_self ..) b hb
    | cons y r =>
      rw [join_cons2, List.mem_append, List.mem_append, List.mem_singleton] at hb
      rcases hb with h1 | rfl | h1
      · exact h x (List.mem_cons_self ..) b h1
      · decide
      · exact ih (fun w hw => h w (List.mem_cons_of_mem _ hw)) b h1
theorem isSp_plain (b : UInt8) (h0 : 48 ≤ b.toNat) (h1 : b.toNat ≤ 90) : isSp b = false := by
  unfold isSp
  have e : ∀ c : UInt8, c.toNat < 48 → (b == c) = false := fun c hc => by
    rw [beq_eq_false_iff_ne]
    rintro rfl
    omega
  rw [e 9 (by decide), e 10 (by decide), e 11 (by decide), e 12 (by decide), e 13 (by decide), e 32 (by decide)]
  rfl
theorem plainD (ws : List (List UInt8)) (h : ∀ w ∈ ws, w ≠ [] ∧ ∀ b ∈ w, 48 ≤ b.toNat ∧ b.toNat ≤ 90 ∧ b.toNat ≠ 59) : fieldsD (Lib.join ws [32]) = ws := by
  rw [fieldsD_ascii _ (join_ascii ws (fun w hw b hb => by have := (h w hw).2 b hb; omega))]
  exact fields_join ws (fun w hw => ⟨(h w hw).1, fun b hb => isSp_plain b ((h w hw).2 b hb).1 ((h w hw).2 b hb).2.1⟩)
theorem no32 {w : List UInt8} (h : ∀ b ∈ w, 48 ≤ b.toNat ∧ b.toNat ≤ 90 ∧ b.toNat ≠ 59) : (32 : UInt8) ∉ w ∧ (59 : UInt8) ∉ w :=
  ⟨fun hm => by have h1 := (h _ hm).1; revert h1; decide, fun hm => (h _ hm).2.2 rfl⟩
theorem specRS_told {s : List SG} {m : List MP} (h : okB s m = true) : specRS (toldL s m) = some (s, m) := by
  obtain ⟨h0, h1, h2⟩ := ok_fit h
  have hs : ∀ w ∈ s.map sgL, w ≠ [] ∧ ∀ b ∈ w, 48 ≤ b.toNat ∧ b.toNat ≤ 90 ∧ b.toNat ≠ 59 := fun w hw => by
    obtain ⟨x, hx, rfl⟩ := List.mem_map.1 hw
    exact sgL_plain x (h1 x hx)
  have hm : ∀ w ∈ m.map mpL, w ≠ [] ∧ ∀ b ∈ w, 48 ≤ b.toNat ∧ b.toNat ≤ 90 ∧ b.toNat ≠ 59 := fun w hw => by
    obtain ⟨x, hx, rfl⟩ := List.mem_map.1 hw
    exact mpL_plain x (h2 x hx)
  have hc : cutAt 59 [] (toldL s m) = [Lib.join (s.map sgL) [32], Lib.join (m.map mpL) [32]] := by
    unfold toldL
    rw [cutAt_hit 59 _ _ [] (join_none 59 (by decide) _ (fun w hw => (no32 (hs w hw).2).2)), cutAt_none 59 _ [] (join_none 59 (by decide) _ (fun w hw => (no32 (hm w hw).2).2))]
    rfl
  have e1 : cutAt 32 [] (Lib.join (s.map sgL) [32]) = s.map sgL := cutAt_join 32 _ (by simpa using h0) (fun w hw => (no32 (hs w hw).2).1)
  have e2 : (if Lib.join (m.map mpL) [32] = [] then [] else cutAt 32 [] (Lib.join (m.map mpL) [32])) = m.map mpL := by
    by_cases hm0 : m = []
    · subst hm0; rfl
    · have e3 := cutAt_join 32 (m.map mpL) (by simpa using hm0) (fun w hw => (no32 (hm w hw).2).1)
      rw [if_neg, e3]
      intro e
      rw [e] at e3
      have hx : ([] : List UInt8) ∈ m.map mpL := by rw [← e3]; exact List.mem_singleton.2 rfl
      exact (hm _ hx).1 rfl
  unfold specRS
  rw [hc]
  simp only
  rw [e1, e2, allM_of sgS sgL s (fun x hx => sgS_of x (h1 x hx)), Option.bind_some, allM_of mpS mpL m (fun x hx => mpS_of x (h2 x hx)), Option.bind_some, if_pos h]
theorem implRS_told {s : List SG} {m : List MP} (h : okB s m = true) : implRS (toldL s m) = some (s, m) := by
  obtain ⟨h0, h1, h2⟩ := ok_fit h
  have hs : ∀ w ∈ s.map sgL, w ≠ [] ∧ ∀ b ∈ w, 48 ≤ b.toNat ∧ b.toNat ≤ 90 ∧ b.toNat ≠ 59 := fun w hw => by
    obtain ⟨x, hx, rfl⟩ := List.mem_map.1 hw
    exact sgL_plain x (h1 x hx)
  have hm : ∀ w ∈ m.map mpL, w ≠ [] ∧ ∀ b ∈ w, 48 ≤ b.toNat ∧ b.toNat ≤ 90 ∧ b.toNat ≠ 59 := fun w hw => by
    obtain ⟨x, hx, rfl⟩ := List.mem_map.1 hw
    exact mpL_plain x (h2 x hx)
  have hn := join_none 59 (by decide) (s.map sgL) (fun w hw => (no32 (hs w hw).2).2)
  have hidx : Lib.index (toldL s m) [59] = ((Lib.join (s.map sgL) [32]).length : Int) := by
    rw [index_one]
    unfold toldL
    generalize Lib.join (s.map sgL) [32] = A at hn
    generalize Lib.join (m.map mpL) [32] = B
    have hg := indexByte_ge (A ++ 59 :: B) 59
    by_cases hm1 : indexByte (A ++ 59 :: B) 59 = -1
    · exfalso
      exact indexByte_none hm1 A.length (by simp)
    · obtain ⟨i, hi⟩ : ∃ i : Nat, indexByte (A ++ 59 :: B) 59 = i := ⟨(indexByte (A ++ 59 :: B) 59).toNat, by omega⟩
      obtain ⟨g1, g2⟩ := indexByte_some hi
      rw [hi]
      have hle : ¬ A.length < i := fun hlt => g2 A.length hlt (by simp)
      have hge : ¬ i < A.length := fun hlt => by
        rw [List.getElem?_append_left hlt] at g1
        exact hn (List.mem_of_getElem? g1)
      omega
  have hcut : Lib.cut (toldL s m) [59] = (Lib.join (s.map sgL) [32], Lib.join (m.map mpL) [32], true) := by
    unfold Lib.cut
    rw [hidx, if_pos (by omega)]
    unfold toldL
    simp
  unfold implRS
  rw [hcut]
  simp only
  rw [plainD _ hs, plainD _ hm, allM_of sgI sgL s (fun x hx => sgI_of x (h1 x hx)), Option.bind_some, allM_of mpS mpL m (fun x hx => mpS_of x (h2 x hx)), Option.bind_some]
  unfold textOf
  rw [if_pos h, told_list s m h1, if_pos ⟨by unfold toldL; simp, rfl⟩]
theorem specRS_back {t : List UInt8} {s : List SG} {m : List MP} (h : specRS t = some (s, m)) : okB s m = true ∧ t = toldL s m := by
  unfold specRS at h
  split at h
  · rename_i A B hc
    cases hs : allM sgS (cutAt 32 [] A) with
    | none => rw [hs] at h; cases h
    | some s' =>
      rw [hs, Option.bind_some] at h
      cases hm : allM mpS (if B = [] then [] else cutAt 32 [] B) with
      | none => rw [hm] at h; cases h
      | some m' =>
        rw [hm, Option.bind_some] at h
        split at h
        · rename_i hok
          cases h
          refine ⟨hok, ?_⟩
          have e1 := allM_back sgS sgL sgS_back _ _ hs
          have e2 := allM_back mpS mpL mpS_back _ _ hm
          have e3 := join_cutAt 59 t []
          rw [hc] at e3
          have e4 := join_cutAt 32 A []
          rw [e1] at e4
          have e5 : Lib.join (m.map mpL) [32] = B := by
            rw [← e2]
            split
            · rename_i hB; rw [hB, join_nil]
            · exact join_cutAt 32 B []
          unfold toldL
          rw [e4, e5]
          rw [join_cons2, join_one] at e3
          exact e3.symm
        · cases h
  · cases h
theorem implRS_back {t : List UInt8} {s : List SG} {m : List MP} (h : implRS t = some (s, m)) : okB s m = true ∧ t = toldL s m := by
  unfold implRS at h
  cases hs : allM sgI (fieldsD (Lib.cut t [59]).1) with
  | none => rw [hs] at h; cases h
  | some s' =>
    rw [hs, Option.bind_some] at h
    cases hm : allM mpS (fieldsD (Lib.cut t [59]).2.1) with
    | none => rw [hm] at h; cases h
    | some m' =>
      rw [hm, Option.bind_some] at h
      split at h
      · rename_i hc
        cases h
        obtain ⟨h0, h1⟩ := hc
        unfold textOf at h1
        by_cases hok : okB s m = true
        · rw [if_pos hok, told_list s m (ok_fit hok).2.1] at h1
          exact ⟨hok, h1.symm⟩
        · rw [if_neg hok] at h1
          exact absurd h1.symm h0
      · cases h
theorem readSys_same (t : List UInt8) : specRS t = implRS t := by
  cases h1 : specRS t with
  | some p =>
    obtain ⟨s, m⟩ := p
    obtain ⟨hok, rfl⟩ := specRS_back h1
    exact (implRS_told hok).symm
  | none =>
    cases h2 : implRS t with
    | none => rfl
    | some p =>
      obtain ⟨s, m⟩ := p
      obtain ⟨hok, rfl⟩ := implRS_back h2
      rw [specRS_told hok] at h1
      cases h1
end Go.Proofs.YtdhhnkhgmoblhaaDoor.Q
