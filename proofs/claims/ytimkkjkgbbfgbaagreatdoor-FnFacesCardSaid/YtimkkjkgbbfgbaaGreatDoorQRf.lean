-- Joined by joinmods.py out of: QpureRF2 QpureRF3 QhandRFBase QlibSplit Qimplwithin QhandNumber QimplnumbersOf QpureRF4 QhandRIBase
import Derived.Test.YtimkkjkgbbfgbaaGreatDoorQFt
import Derived.Test.YtimkkjkgbbfgbaaGreatDoorQWd
import Derived.Shelf.Strings.FieldsAny
import Derived.Test.YtimkkjkgbbfgbaaGreatDoorQLs
import Derived.Test.YtimkkjkgbbfgbaaGreatDoorQVf
import Derived.Test.YtimkkjkgbbfgbaaGreatDoorShelfL
import Derived.Lib.SplitLaws
import Derived.Test.YtimkkjkgbbfgbaaGreatDoorQ0
import Derived.Test.YtimkkjkgbbfgbaaGreatDoorGlobFP
import Derived.Test.YtimkkjkgbbfgbaaGreatDoorPure2
import Derived.Lib.ParseIntBTie
import Derived.Lib.SmallJoins
import Derived.Lib.Hide
import Derived.Outline
section
/- A face, read from its text: to split, parse and check it is to read it loosely and to tell it again. -/
namespace Go.Proofs.YtimkkjkgbbfgbaaGreatDoor.Q
open Go.RowKit Go.Proofs.YtimkkjkgbbfgbaaGreatDoorW.PrintWords Go.Proofs.YtimkkjkgbbfgbaaGreatDoorW.PrintLast Go.Proofs.YtimkkjkgbbfgbaaGreatDoorW.PrintMore
open Go.Proofs.YtimkkjkgbbfgbaaGreatDoor.Pure Go.Lib
set_option linter.unusedVariables false
set_option linter.unusedSimpArgs false

def allM {α β : Type} (f : α → Option β) : List α → Option (List β)
  | [] => some []
  | x :: r => (f x).bind fun y => (allM f r).map fun q => y :: q
theorem allM_some {α β : Type} (f : α → Option β) : ∀ (l : List α) (r : List β), allM f l = some r → l.map f = r.map some := by
  intro l
  induction l with
  | nil => intro r h; simp [allM] at h; subst h; rfl
  | cons x l ih =>
    intro r h
    rw [allM] at h
    cases hx : f x with
    | none => rw [hx] at h; cases h
    | some y =>
      rw [hx, Option.bind_some] at h
      cases hl : allM f l with
      | none => rw [hl] at h; cases h
      | some q =>
        rw [hl] at h
        cases h
        rw [List.map_cons, List.map_cons, hx, ih q hl]
theorem allM_of {α β : Type} (f : α → Option β) (g : β → α) : ∀ (r : List β), (∀ y ∈ r, f (g y) = some y) → allM f (r.map g) = some r := by
  intro r
  induction r with
  | nil => intro _; rfl
  | cons y r ih =>
    intro h
    rw [List.map_cons, allM, h y (List.mem_cons_self ..), Option.bind_some, ih (fun z hz => h z (List.mem_cons_of_mem _ hz))]
    rfl
theorem allM_back {α β : Type} (f : α → Option β) (g : β → α) (hfg : ∀ x y, f x = some y → x = g y) (l : List α) (r : List β) (h : allM f l = some r) : l = r.map g := by
  have := allM_some f l r h
  clear h
  induction l generalizing r with
  | nil => cases r with
    | nil => rfl
    | cons y r => simp at this
  | cons x l ih =>
    cases r with
    | nil => simp at this
    | cons y r =>
      simp only [List.map_cons, List.cons.injEq] at this
      rw [List.map_cons, ih r this.2, hfg x y this.1]
theorem allM_len {α β : Type} (f : α → Option β) (l : List α) (r : List β) (h : allM f l = some r) : r.length = l.length := by
  have := congrArg List.length (allM_some f l r h)
  simpa using this.symm

/-- A number of digits, as the reference reads it. -/
def numL (l : List UInt8) : Option Nat := if l = [] ∨ 10 < l.length ∨ (l.head? = some 48 ∧ 1 < l.length) then none else valD 0 l
theorem allM_backP {α β : Type} (f : α → Option β) (g : β → α) (P : β → Prop) (hfg : ∀ x y, f x = some y → P y → x = g y) (l : List α) (r : List β) (h : allM f l = some r) (hP : ∀ y ∈ r, P y) : l = r.map g := by
  have := allM_some f l r h
  clear h
  induction l generalizing r with
  | nil => cases r with
    | nil => rfl
    | cons y r => simp at this
  | cons x l ih =>
    cases r with
    | nil => simp at this
    | cons y r =>
      simp only [List.map_cons, List.cons.injEq] at this
      rw [List.map_cons, ih r (fun z hz => hP z (List.mem_cons_of_mem _ hz)) this.2, hfg x y this.1 (hP y (List.mem_cons_self ..))]
theorem numL_back {r : List UInt8} {n : Nat} (h : numL r = some n) : r = decDigits n := by
  unfold numL at h
  split at h
  · cases h
  · rename_i hc
    rw [not_or, not_or] at hc
    refine val_dec (r.length - 1) r n ?_ h ?_
    · have := List.length_pos_iff.2 hc.1; omega
    · intro hl b q e hb
      refine hc.2.2 ⟨?_, hl⟩
      rw [e]
      show some b = some 48
      congr 1
      exact UInt8.toNat_inj.1 hb
theorem numL_dec (n : Nat) (hn : n ≤ 9999) : numL (decDigits n) = some n := by
  have hl : (decDigits n).length ≤ 4 := decDigits_len n 3 (by omega)
  unfold numL
  rw [if_neg, Pure.dec_val]
  rintro (h | h | ⟨h, hl2⟩)
  · exact dec_ne _ h
  · omega
  · by_cases h9 : n = 0
    · rw [h9, decDigits_one (by decide)] at hl2
      simp at hl2
    · obtain ⟨b, r, e, hb⟩ := dec_head _ h9
      rw [e] at h
      cases h
      exact hb rfl
/-- .. as the program reads it. -/
def numI (most : Int) (l : List UInt8) : Option Int := match parseIntB 64 l with
  | .ok n => if itoa n = l ∧ 0 ≤ n ∧ n ≤ most then some n else none
  | _ => none
theorem numI_dec (most : Int) (n : Nat) (hn : (n : Int) ≤ most) (h9 : n ≤ 9999) : numI most (decDigits n) = some (n : Int) := by
  unfold numI
  rw [parse_dec _ (by omega)]
  simp only
  rw [if_pos ⟨by rw [Lib.itoa_nonneg], by omega, hn⟩]
theorem numI_range {most : Int} {l : List UInt8} {n : Int} (h : numI most l = some n) : 0 ≤ n ∧ n ≤ most := by
  unfold numI at h
  split at h
  · split at h
    · rename_i hc
      cases h
      exact hc.2
    · cases h
  · cases h
def wdS (l : List UInt8) : Option Int := (numL l).bind fun n => if n ≤ 40 then some (n : Int) else none
def prS : List UInt8 → Option S33
  | a :: b :: c :: r => if c = 43 ∨ c = 45 then (numL r).bind fun n => if n ≤ 10 then some ⟨(a.toNat : Int), (b.toNat : Int), if c = 45 then -(n : Int) else n⟩ else none else none
  | _ => none
def prI : List UInt8 → Option S33
  | a :: b :: c :: r => if r = [] then none else (numI 10 r).bind fun n => some ⟨(a.toNat : Int), (b.toNat : Int), if c = 45 then -n else n⟩
  | _ => none
def wdL (x : Int) : List UInt8 := decDigits x.toNat
def prL (p : S33) : List UInt8 := UInt8.ofNat p.f0.toNat :: UInt8.ofNat p.f1.toNat :: (if p.f2 < 0 then 45 else 43) :: decDigits p.f2.natAbs
def faceL (ws : List Int) (sp gp : Int) (l : List S33) : List UInt8 := Lib.join (ws.map wdL) [32] ++ 59 :: (wdL sp ++ 59 :: (wdL gp ++ 59 :: Lib.join (l.map prL) [32]))
abbrev FaceV := List Int × Int × Int × List S33
def specRF (t : List UInt8) : Option FaceV := match cutAt 59 [] t with
  | [a, b, c, d] => (numL b).bind fun s => (numL c).bind fun g => if (cutAt 32 [] a).length = 26 ∧ s ≤ 40 ∧ g ≤ 10 then (allM wdS (cutAt 32 [] a)).bind fun ws => (allM prS (if d = [] then [] else cutAt 32 [] d)).bind fun l => if validB ws s g l = true then some (ws, (s : Int), (g : Int), l) else none else none
  | _ => none
def implRF (t : List UInt8) : Option FaceV := match cutAt 59 [] t with
  | [a, b, c, d] => (allM (numI 40) (cutAt 32 [] a)).bind fun ws => (numI 40 b).bind fun s => (numI 10 c).bind fun g => if ws.length = 26 then (allM prI (fieldsD d)).bind fun l => if (faceTextR ws s g l).data.toList = t then some (ws, s, g, l) else none else none
  | _ => none
theorem ofNat_byte (b : UInt8) : UInt8.ofNat b.toNat = b := by simp
theorem wdS_back (x : List UInt8) (y : Int) (h : wdS x = some y) : x = wdL y := by
  unfold wdS at h
  cases hv : numL x with
  | none => rw [hv] at h; cases h
  | some n =>
    rw [hv, Option.bind_some] at h
    split at h
    · cases h
      unfold wdL
      rw [numL_back hv]
      rfl
    · cases h
theorem prS_back (x : List UInt8) (y : S33) (h : prS x = some y) (h0 : y.f2 ≠ 0) : x = prL y := by
  match x, h with
  | a :: b :: c :: r, h =>
    rw [prS] at h
    split at h
    · rename_i hc
      cases hv : numL r with
      | none => rw [hv] at h; cases h
      | some n =>
        rw [hv, Option.bind_some] at h
        split at h
        · cases h
          have hr := numL_back hv
          unfold prL
          have e1 : ((a.toNat : Int)).toNat = a.toNat := by omega
          have e2 : ((b.toNat : Int)).toNat = b.toNat := by omega
          simp only [e1, e2]
          rw [ofNat_byte, ofNat_byte]
          rcases hc with rfl | rfl
          · simp only [if_neg (show ¬ (43 : UInt8) = 45 by decide)] at h0 ⊢
            rw [if_neg (by omega), hr]
            rfl
          · simp only [if_true] at h0 ⊢
            rw [if_pos (by omega), hr]
            congr 4
            omega
        · cases h
    · cases h
def fitP (p : S33) : Prop := (65 ≤ p.f0 ∧ p.f0 ≤ 90) ∧ (65 ≤ p.f1 ∧ p.f1 ≤ 90) ∧ (-10 ≤ p.f2 ∧ p.f2 ≤ 10) ∧ p.f2 ≠ 0
theorem byte_fit {x : Int} (h0 : 65 ≤ x) (h1 : x ≤ 90) : (UInt8.ofNat x.toNat).toNat = x.toNat := by
  rw [UInt8.toNat_ofNat']
  omega
theorem wdS_of (x : Int) (h0 : 0 ≤ x) (h1 : x ≤ 40) : wdS (wdL x) = some x := by
  unfold wdS wdL
  rw [numL_dec _ (by omega), Option.bind_some, if_pos (by omega)]
  congr 1
  omega
theorem wdI_of (most x : Int) (h0 : 0 ≤ x) (h1 : x ≤ most) (h2 : x ≤ 9999) : numI most (wdL x) = some x := by
  unfold wdL
  rw [numI_dec most x.toNat (by omega) (by omega)]
  congr 1
  omega
theorem pr_eta (p : S33) (h : fitP p) (n : Int) (hn : n = p.f2.natAbs) : (⟨((UInt8.ofNat p.f0.toNat).toNat : Int), ((UInt8.ofNat p.f1.toNat).toNat : Int), if (if p.f2 < 0 then (45 : UInt8) else 43) = 45 then -n else n⟩ : S33) = p := by
  obtain ⟨⟨a0, a1⟩, ⟨b0, b1⟩, ⟨c0, c1⟩, c2⟩ := h
  rw [byte_fit a0 a1, byte_fit b0 b1]
  have e1 : (p.f0.toNat : Int) = p.f0 := by omega
  have e2 : (p.f1.toNat : Int) = p.f1 := by omega
  rw [e1, e2]
  by_cases hg : p.f2 < 0
  · rw [if_pos hg, if_pos rfl, hn]
    have : -((p.f2.natAbs : Nat) : Int) = p.f2 := by omega
    rw [this]
  · rw [if_neg hg, if_neg (by decide), hn]
    have : ((p.f2.natAbs : Nat) : Int) = p.f2 := by omega
    rw [this]
theorem prS_of (p : S33) (h : fitP p) : prS (prL p) = some p := by
  have hc := h.2.2.1
  unfold prL
  rw [prS, if_pos (by split <;> simp), numL_dec _ (by omega), Option.bind_some, if_pos (by omega), pr_eta p h _ rfl]
theorem prI_of (p : S33) (h : fitP p) : prI (prL p) = some p := by
  have hc := h.2.2.1
  unfold prL
  rw [prI, if_neg (dec_ne _), numI_dec 10 _ (by omega) (by omega), Option.bind_some, pr_eta p h _ rfl]
def plainW (w : List UInt8) : Prop := w ≠ [] ∧ ∀ b ∈ w, 33 ≤ b.toNat ∧ b.toNat ≤ 90 ∧ b.toNat ≠ 59
theorem wdL_plain (x : Int) : plainW (wdL x) := ⟨dec_ne _, fun b hb => by have := dec_digit _ b hb; omega⟩
theorem prL_plain (p : S33) (h : fitP p) : plainW (prL p) := by
  obtain ⟨⟨a0, a1⟩, ⟨b0, b1⟩, ⟨c0, c1⟩, c2⟩ := h
  unfold prL
  refine ⟨by simp, fun b hb => ?_⟩
  rcases List.mem_cons.1 hb with rfl | hb
  · rw [byte_fit a0 a1]; omega
  · rcases List.mem_cons.1 hb with rfl | hb
    · rw [byte_fit b0 b1]; omega
    · rcases List.mem_cons.1 hb with rfl | hb
      · split <;> decide
      · have := dec_digit _ b hb; omega
theorem isSp_plain (b : UInt8) (h0 : 33 ≤ b.toNat) (h1 : b.toNat ≤ 90) : isSp b = false := by
  unfold isSp
  have e : ∀ c : UInt8, c.toNat < 33 → (b == c) = false := fun c hc => by
    rw [beq_eq_false_iff_ne]
    rintro rfl
    omega
  rw [e 9 (by decide), e 10 (by decide), e 11 (by decide), e 12 (by decide), e 13 (by decide), e 32 (by decide)]
  rfl
theorem join_none (c : UInt8) (hc : c ≠ 32) : ∀ ws : List (List UInt8), (∀ w ∈ ws, c ∉ w) → c ∉ Lib.join ws [32] := by
  intro ws
  induction ws with
  | nil => intro _; rw [join_nil]; exact List.not_mem_nil
  | cons x r ih =>
    intro h
    cases r with
    | nil => rw [join_one]; exact h x (List.mem_cons_self ..)
    | cons y r =>
      rw [join_cons2, List.mem_append, List.mem_append, List.mem_singleton]
      rintro (h1 | h1 | h1)
      · exact h x (List.mem_cons_self ..) h1
      · exact hc h1
      · exact ih (fun w hw => h w (List.mem_cons_of_mem _ hw)) h1
theorem join_ascii : ∀ ws : List (List UInt8), (∀ w ∈ ws, ∀ b ∈ w, b.toNat < 128) → ∀ b ∈ Lib.join ws [32], b.toNat < 128 := by
  intro ws
  induction ws with
  | nil => intro _ b hb; rw [join_nil] at hb; cases hb
  | cons x r ih =>
    intro h b hb
    cases r with
    | nil => rw [join_one] at hb; exact h x (List.mem_cons_self ..) b hb
    | cons y r =>
      rw [join_cons2, List.mem_append, List.mem_append, List.mem_singleton] at hb
      rcases hb with h1 | rfl | h1
      · exact h x (List.mem_cons_self ..) b h1
      · decide
      · exact ih (fun w hw => h w (List.mem_cons_of_mem _ hw)) b h1
theorem plainD (ws : List (List UInt8)) (h : ∀ w ∈ ws, plainW w) : fieldsD (Lib.join ws [32]) = ws := by
  rw [fieldsD_ascii _ (join_ascii ws (fun w hw b hb => by have := (h w hw).2 b hb; omega))]
  exact fields_join ws (fun w hw => ⟨(h w hw).1, fun b hb => isSp_plain b ((h w hw).2 b hb).1 ((h w hw).2 b hb).2.1⟩)
theorem no32 {w : List UInt8} (h : plainW w) : (32 : UInt8) ∉ w ∧ (59 : UInt8) ∉ w :=
  ⟨fun hm => by have h1 := (h.2 _ hm).1; revert h1; decide, fun hm => (h.2 _ hm).2.2 rfl⟩
/-- A valid face's pairs are letters. -/
theorem valid_fit {ws : List Int} {sp gp : Int} {l : List S33} (h : validB ws sp gp l = true) : ∀ x ∈ l, fitP x := by
  unfold validB faceB pairsB at h
  simp only [Bool.and_eq_true, decide_eq_true_eq, List.all_eq_true, List.mem_range] at h
  obtain ⟨⟨⟨⟨_, hp⟩, _⟩, _⟩, _⟩ := h
  intro x hxm
  obtain ⟨i, hi, rfl⟩ := List.getElem_of_mem hxm
  have h1 := hp i hi
  unfold pairB inB letB at h1
  rw [rd46_get l i hi] at h1
  simp only [Bool.and_eq_true, decide_eq_true_eq, Bool.not_eq_true', decide_eq_false_iff_not] at h1
  obtain ⟨⟨⟨⟨⟨h4, h5⟩, h2⟩, h3⟩, _⟩, _⟩ := h1
  exact ⟨h4, h5, h2, h3⟩
theorem itoa_wd {x : Int} (h : 0 ≤ x) : (itoaB x).data.toList = wdL x := by
  unfold itoaB wdL
  have e : x = (x.toNat : Int) := by omega
  show itoa x = _
  conv => lhs; rw [e]
  rw [Lib.itoa_nonneg]
theorem pr_list (p : S33) (h : fitP p) : (prT p).data.toList = prL p := by
  unfold prT byT prL
  rw [ByteArray.data_append, Array.toList_append, ByteArray.data_append, Array.toList_append]
  by_cases hg : p.f2 < 0
  · rw [if_pos hg, if_pos hg, if_pos hg, itoa_wd (by omega)]
    unfold wdL
    have e : (-p.f2).toNat = p.f2.natAbs := by omega
    rw [e]
    rfl
  · rw [if_neg hg, if_neg hg, if_neg hg, itoa_wd (by omega)]
    unfold wdL
    have e : p.f2.toNat = p.f2.natAbs := by omega
    rw [e]
    rfl
theorem told_list {ws : List Int} (hx : ws.length = 26) {sp gp : Int} {l : List S33} (h : validB ws sp gp l = true) : (faceT ws sp gp l).data.toList = faceL ws sp gp l := by
  obtain ⟨vw, vs, vg, vl, vp⟩ := valid_facts hx h
  have hf := valid_fit h
  have e1 : (ws.map itoaB).map (fun x => x.data.toList) = ws.map wdL := by
    rw [List.map_map]
    apply List.map_congr_left
    intro x hm
    exact itoa_wd (by have := (vw x hm).1; omega)
  have e2 : (l.map prT).map (fun x => x.data.toList) = l.map prL := by
    rw [List.map_map]
    apply List.map_congr_left
    intro x hm
    exact pr_list x (hf x hm)
  unfold faceT midT faceL
  simp only [ByteArray.data_append, Array.toList_append]
  rw [itoa_wd (x := sp) (by omega), itoa_wd (x := gp) (by omega)]
  unfold joinB
  show Lib.join ((ws.map itoaB).map (fun x => x.data.toList)) [32] ++ (([59] ++ wdL sp ++ [59]) ++ wdL gp ++ [59]) ++ Lib.join ((l.map prT).map (fun x => x.data.toList)) [32] = _
  rw [e1, e2]
  simp [List.append_assoc]
theorem cut_face {ws : List Int} {sp gp : Int} {l : List S33} (hf : ∀ x ∈ l, fitP x) : cutAt 59 [] (faceL ws sp gp l) = [Lib.join (ws.map wdL) [32], wdL sp, wdL gp, Lib.join (l.map prL) [32]] := by
  unfold faceL
  rw [cutAt_hit 59 _ _ [] (join_none 59 (by decide) _ (fun w hw => by obtain ⟨x, _, rfl⟩ := List.mem_map.1 hw; exact (no32 (wdL_plain x)).2)), cutAt_hit 59 _ _ [] (no32 (wdL_plain sp)).2, cutAt_hit 59 _ _ [] (no32 (wdL_plain gp)).2,
    cutAt_none 59 _ [] (join_none 59 (by decide) _ (fun w hw => by obtain ⟨x, hx, rfl⟩ := List.mem_map.1 hw; exact (no32 (prL_plain x (hf x hx))).2))]
  rfl
theorem cut_wide {ws : List Int} (hx : ws.length = 26) : cutAt 32 [] (Lib.join (ws.map wdL) [32]) = ws.map wdL :=
  cutAt_join 32 _ (by intro h; have := congrArg List.length h; rw [List.length_map, hx] at this; cases this) (fun w hw => by obtain ⟨x, _, rfl⟩ := List.mem_map.1 hw; exact (no32 (wdL_plain x)).1)
theorem cut_pairs {l : List S33} (hf : ∀ x ∈ l, fitP x) : (if Lib.join (l.map prL) [32] = [] then [] else cutAt 32 [] (Lib.join (l.map prL) [32])) = l.map prL := by
  by_cases hm0 : l = []
  · subst hm0; rfl
  · have e3 := cutAt_join 32 (l.map prL) (by simpa using hm0) (fun w hw => by obtain ⟨x, hx, rfl⟩ := List.mem_map.1 hw; exact (no32 (prL_plain x (hf x hx))).1)
    rw [if_neg, e3]
    intro e
    rw [e] at e3
    have hx : ([] : List UInt8) ∈ l.map prL := by rw [← e3]; exact List.mem_singleton.2 rfl
    obtain ⟨x, hx2, e4⟩ := List.mem_map.1 hx
    exact (prL_plain x (hf x hx2)).1 e4
theorem specRF_told {ws : List Int} (hx : ws.length = 26) {sp gp : Int} {l : List S33} (h : validB ws sp gp l = true) : specRF (faceL ws sp gp l) = some (ws, sp, gp, l) := by
  obtain ⟨vw, vs, vg, vl, vp⟩ := valid_facts hx h
  have hf := valid_fit h
  obtain ⟨s, rfl⟩ := Int.eq_ofNat_of_zero_le (show 0 ≤ sp by omega)
  obtain ⟨g, rfl⟩ := Int.eq_ofNat_of_zero_le (show 0 ≤ gp by omega)
  unfold specRF
  rw [cut_face hf]
  simp only
  rw [show wdL (s : Int) = decDigits s from rfl, show wdL (g : Int) = decDigits g from rfl, numL_dec s (by omega), Option.bind_some, numL_dec g (by omega), Option.bind_some, cut_wide hx, if_pos ⟨by rw [List.length_map]; exact hx, by omega, by omega⟩,
    allM_of wdS wdL ws (fun x hm => wdS_of x (by have := (vw x hm).1; omega) (vw x hm).2), Option.bind_some, cut_pairs hf, allM_of prS prL l (fun x hm => prS_of x (hf x hm)), Option.bind_some, if_pos h]
theorem implRF_told {ws : List Int} (hx : ws.length = 26) {sp gp : Int} {l : List S33} (h : validB ws sp gp l = true) : implRF (faceL ws sp gp l) = some (ws, sp, gp, l) := by
  obtain ⟨vw, vs, vg, vl, vp⟩ := valid_facts hx h
  have hf := valid_fit h
  unfold implRF
  rw [cut_face hf]
  simp only
  rw [cut_wide hx, allM_of (numI 40) wdL ws (fun x hm => wdI_of 40 x (by have := (vw x hm).1; omega) (vw x hm).2 (by have := (vw x hm).2; omega)), Option.bind_some, wdI_of 40 sp (by omega) (by omega) (by omega), Option.bind_some, wdI_of 10 gp (by omega) (by omega) (by omega), Option.bind_some, if_pos hx,
    plainD _ (fun w hw => by obtain ⟨x, hx, rfl⟩ := List.mem_map.1 hw; exact prL_plain x (hf x hx)), allM_of prI prL l (fun x hm => prI_of x (hf x hm)), Option.bind_some]
  unfold faceTextR
  rw [if_pos h, told_list hx h, if_pos rfl]
theorem specRF_back {t : List UInt8} {ws : List Int} {sp gp : Int} {l : List S33} (h : specRF t = some (ws, sp, gp, l)) : ws.length = 26 ∧ validB ws sp gp l = true ∧ t = faceL ws sp gp l := by
  unfold specRF at h
  split at h
  · rename_i a b c d hc
    cases hs : numL b with
    | none => rw [hs] at h; cases h
    | some s =>
    rw [hs, Option.bind_some] at h
    cases hg : numL c with
    | none => rw [hg] at h; cases h
    | some g =>
    rw [hg, Option.bind_some] at h
    split at h
    · rename_i hl
      cases hw : allM wdS (cutAt 32 [] a) with
      | none => rw [hw] at h; cases h
      | some ws' =>
      rw [hw, Option.bind_some] at h
      cases hp : allM prS (if d = [] then [] else cutAt 32 [] d) with
      | none => rw [hp] at h; cases h
      | some l' =>
      rw [hp, Option.bind_some] at h
      split at h
      · rename_i hok
        cases h
        have h26 : ws.length = 26 := (allM_len wdS _ _ hw).trans hl.1
        have hf := valid_fit hok
        refine ⟨h26, hok, ?_⟩
        have e1 := allM_back wdS wdL wdS_back _ _ hw
        have e2 := allM_backP prS prL (fun y => y.f2 ≠ 0) prS_back _ _ hp (fun y hy => (hf y hy).2.2.2)
        have e3 := join_cutAt 59 t []
        rw [hc] at e3
        have e4 := join_cutAt 32 a []
        rw [e1] at e4
        have e5 : Lib.join (l.map prL) [32] = d := by
          rw [← e2]
          split
          · rename_i hB; rw [hB, join_nil]
          · exact join_cutAt 32 d []
        unfold faceL
        rw [e4, e5, show wdL (s : Int) = decDigits s from rfl, show wdL (g : Int) = decDigits g from rfl, ← numL_back hs, ← numL_back hg]
        rw [join_cons2, join_cons2, join_cons2, join_one] at e3
        simpa using e3.symm
      · cases h
    · cases h
  · cases h
theorem implRF_back {t : List UInt8} {ws : List Int} {sp gp : Int} {l : List S33} (h : implRF t = some (ws, sp, gp, l)) : ws.length = 26 ∧ validB ws sp gp l = true ∧ t = faceL ws sp gp l := by
  unfold implRF at h
  split at h
  · rename_i a b c d hc
    cases hw : allM (numI 40) (cutAt 32 [] a) with
    | none => rw [hw] at h; cases h
    | some ws' =>
    rw [hw, Option.bind_some] at h
    cases hs : numI 40 b with
    | none => rw [hs] at h; cases h
    | some s =>
    rw [hs, Option.bind_some] at h
    cases hg : numI 10 c with
    | none => rw [hg] at h; cases h
    | some g =>
    rw [hg, Option.bind_some] at h
    split at h
    · rename_i h26
      cases hp : allM prI (fieldsD d) with
      | none => rw [hp] at h; cases h
      | some l' =>
      rw [hp, Option.bind_some] at h
      split at h
      · rename_i ht
        cases h
        unfold faceTextR at ht
        by_cases hok : validB ws sp gp l = true
        · rw [if_pos hok, told_list h26 hok] at ht
          exact ⟨h26, hok, ht.symm⟩
        · rw [if_neg hok] at ht
          exfalso
          have e : t = [] := ht.symm
          rw [e] at hc
          cases hc
      · cases h
    · cases h
  · cases h
theorem readFace_same (t : List UInt8) : specRF t = implRF t := by
  cases h1 : specRF t with
  | some p =>
    obtain ⟨ws, sp, gp, l⟩ := p
    obtain ⟨hx, hok, rfl⟩ := specRF_back h1
    exact (implRF_told hx hok).symm
  | none =>
    cases h2 : implRF t with
    | none => rfl
    | some p =>
      obtain ⟨ws, sp, gp, l⟩ := p
      obtain ⟨hx, hok, rfl⟩ := implRF_back h2
      rw [specRF_told hx hok] at h1
      cases h1
end Go.Proofs.YtimkkjkgbbfgbaaGreatDoor.Q
end
section
/- Texts as lists of bytes; what the reference makes of a face's words. -/
namespace Go.Proofs.YtimkkjkgbbfgbaaGreatDoor.Q
open Go.RowKit Go.Proofs.YtimkkjkgbbfgbaaGreatDoorW.PrintWords Go.Proofs.YtimkkjkgbbfgbaaGreatDoorW.PrintLast Go.Proofs.YtimkkjkgbbfgbaaGreatDoorW.PrintMore
open Go.Proofs.YtimkkjkgbbfgbaaGreatDoor.Pure Go.Lib
set_option linter.unusedVariables false
set_option linter.unusedSimpArgs false

def mkB (l : List UInt8) : ByteArray := ⟨l.toArray⟩
theorem mk_size (l : List UInt8) : (mkB l).size = l.length := by simp [mkB, ByteArray.size]
theorem mk_data (l : List UInt8) : (mkB l).data.toList = l := rfl
theorem mk_of (a : ByteArray) : mkB a.data.toList = a := rfl
theorem mk_toList (l : List UInt8) : (mkB l).toList = l := by rw [ByteArray.toList_eq]; rfl
theorem mk_bt (l : List UInt8) (i : Nat) (h : i < l.length) : bt (mkB l) (i : Int) = (l[i].toNat : Int) := by
  have h1 : (i : Int).toNat < (mkB l).size := by rw [mk_size]; simpa using h
  have := bt_at (mkB l) (i : Int) h1
  rw [← this]
  simp only [Int.toNat_natCast]
  rfl
theorem mk_tail (c : UInt8) (r : List UInt8) : (mkB (c :: r)).extract 1 (mkB (c :: r)).size = mkB r := by
  apply ByteArray.ext
  rw [ByteArray.data_extract]
  apply Array.toList_inj.1
  rw [mk_size]
  simp [mkB, List.extract_eq_take_drop]

theorem mk_tail' (c : UInt8) (r : List UInt8) : (mkB (c :: r)).extract 1 ((c :: r).length) = mkB r := by rw [← mk_size]; exact mk_tail c r

theorem split_cut (a : ByteArray) (c : UInt8) (ha : a.size ≤ 1048576) : ∀ d i s (acc : List ByteArray), i + d = a.size → s ≤ i → acc.length ≤ i →
    spec_l01Split.l0 (d + 1) a (c.toNat : Int) acc (s : Nat) (i : Nat) = some (acc ++ (cutAt c (sliceL a s i) (a.data.toList.drop i)).map mkB) := by
  intro d
  induction d with
  | zero =>
    intro i s acc hi hs hacc
    obtain rfl : i = a.size := by omega
    rw [spec_l01Split.l0, if_neg (by omega), if_pos (by omega), if_pos (by omega), if_pos (by omega), List.drop_of_length_le (by rw [data_length]; exact Nat.le_refl _), Int.toNat_natCast, extract_slice]
    simp [cutAt]
    rfl
  | succ d ih =>
    intro i s acc hi hs hacc
    have hlt : i < a.size := by omega
    have hd : a.data.toList.drop i = a[i] :: a.data.toList.drop (i + 1) := by
      rw [List.drop_eq_getElem_cons (by rw [data_length]; exact hlt)]
      rfl
    have hb := byte_at a i hlt
    rw [spec_l01Split.l0, if_pos (by omega), if_pos (by omega), wrap_succ hlt (by omega), hd, cutAt]
    by_cases e : a[i] = c
    · have c2 : bt a i = (c.toNat : Int) := by rw [hb, e]
      have h0 : sliceL a (i + 1) (i + 1) = [] := by simp [sliceL]
      rw [if_pos c2, if_pos e, if_pos (by omega), if_pos (by omega), if_pos (by omega), if_pos (by omega), Int.toNat_natCast, Int.toNat_natCast, ih (i + 1) (i + 1) _ (by omega) (Nat.le_refl _) (by rw [List.length_append]; simp; omega), h0, extract_slice]
      simp
      rfl
    · have c2 : ¬ bt a i = (c.toNat : Int) := by
        rw [hb]
        intro h
        exact e (UInt8.toNat_inj.1 (by omega))
      rw [if_neg c2, if_neg e, ih (i + 1) s acc (by omega) (by omega) (by omega), sliceL_step a s i hs hlt]
theorem spec_l01Split.val (a : ByteArray) (c : UInt8) (ha : a.size ≤ 1048576) (k : Nat) (hk : a.size + 1 ≤ k) : spec_l01Split.f k a (c.toNat : Int) = some ((cutAt c [] a.data.toList).map mkB) := by
  refine at_rounds (spec_l01Split.mono a (c.toNat : Int)) hk ?_
  have := split_cut a c ha a.size 0 0 [] (by omega) (Nat.le_refl _) (Nat.le_refl _)
  rw [List.nil_append, List.drop_zero] at this
  unfold spec_l01Split.f
  exact this

def numR (l : List UInt8) : Int × Bool := match numL l with | some n => ((n : Int), true) | none => (0, false)
theorem allM_cons_none {α β : Type} (f : α → Option β) (x : α) (r : List α) (h : f x = none) : allM f (x :: r) = none := by rw [allM, h]; rfl
theorem allM_cons_some {α β : Type} (f : α → Option β) (x : α) (y : β) (r : List α) (h : f x = some y) : allM f (x :: r) = (allM f r).map fun q => y :: q := by rw [allM, h]; rfl
theorem allM_mem {α β : Type} (f : α → Option β) (l : List α) (r : List β) (h : allM f l = some r) : ∀ y ∈ r, ∃ x ∈ l, f x = some y := by
  intro y hy
  have e := allM_some f l r h
  have : some y ∈ r.map some := List.mem_map.2 ⟨y, hy, rfl⟩
  rw [← e] at this
  obtain ⟨x, hx, hf⟩ := List.mem_map.1 this
  exact ⟨x, hx, hf⟩
theorem mk_drop (l : List UInt8) (n : Nat) (h : n ≤ l.length) : (mkB l).extract n (mkB l).size = mkB (l.drop n) := by
  rw [extract_slice]
  unfold sliceL mkB
  congr 2
  show (l.drop n).take ((mkB l).size - n) = l.drop n
  rw [mk_size]
  exact List.take_of_length_le (by rw [List.length_drop]; omega)
def prR (l : List UInt8) : Int × Int × Int × Bool := match prS l with | some p => (p.f0, p.f1, p.f2, true) | none => (0, 0, 0, false)
end Go.Proofs.YtimkkjkgbbfgbaaGreatDoor.Q
end
section
/- spec.ReadFace, by hand. -/
namespace Go.Proofs.YtimkkjkgbbfgbaaGreatDoor.Q
open Go.RowKit Go.Proofs.YtimkkjkgbbfgbaaGreatDoorW.PrintWords Go.Proofs.YtimkkjkgbbfgbaaGreatDoorW.PrintLast Go.Proofs.YtimkkjkgbbfgbaaGreatDoorW.PrintMore
open Go.Proofs.YtimkkjkgbbfgbaaGreatDoor.Pure
set_option linter.unusedVariables false
set_option linter.unusedSimpArgs false

def noFaceV : FaceV := (Z26, 0, 0, [])
def readR (t : ByteArray) : FaceV × Int := match specRF t.data.toList with | some f => (f, 0) | none => (noFaceV, 5)
theorem readR_none {t : ByteArray} (h : specRF t.data.toList = none) : readR t = (noFaceV, 5) := by unfold readR; rw [h]
theorem specRF_len {t : List UInt8} (h : (cutAt 59 [] t).length ≠ 4) : specRF t = none := by
  unfold specRF
  split
  · rename_i hc
    rw [hc] at h
    exact absurd rfl h
  · rfl
theorem specRF_four {t a b c d : List UInt8} (h : cutAt 59 [] t = [a, b, c, d]) : specRF t = ((numL b).bind fun s => (numL c).bind fun g => if (cutAt 32 [] a).length = 26 ∧ s ≤ 40 ∧ g ≤ 10 then (allM wdS (cutAt 32 [] a)).bind fun ws => (allM prS (if d = [] then [] else cutAt 32 [] d)).bind fun l => if validB ws s g l = true then some (ws, (s : Int), (g : Int), l) else none else none) := by
  unfold specRF
  rw [h]
theorem four_of {α : Type} {l : List α} (h : l.length = 4) : ∃ a b c d, l = [a, b, c, d] := by
  match l, h with
  | [a, b, c, d], _ => exact ⟨a, b, c, d, rfl⟩
theorem good_false {T a b c d : List UInt8} (h : specRF T = ((numL b).bind fun s => (numL c).bind fun g => if (cutAt 32 [] a).length = 26 ∧ s ≤ 40 ∧ g ≤ 10 then (allM wdS (cutAt 32 [] a)).bind fun ws => (allM prS (if d = [] then [] else cutAt 32 [] d)).bind fun l => if validB ws s g l = true then some (ws, (s : Int), (g : Int), l) else none else none))
    (hg : (decide ((cutAt 32 [] a).length = 26) && (numR b).2 && (numR c).2 && decide ((numR b).1 ≤ 40) && decide ((numR c).1 ≤ 10)) = false) : specRF T = none := by
  rw [h]
  cases hb : numL b with
  | none => rfl
  | some s =>
    cases hc : numL c with
    | none => rfl
    | some g =>
      simp only [Option.bind_some]
      rw [if_neg]
      rintro ⟨h1, h2, h3⟩
      unfold numR at hg
      rw [hb, hc] at hg
      simp [h1] at hg
      omega
set_option maxRecDepth 100000 in
theorem build28 (x y : Int) (w : World) : (Instr.build 28 #[(1, .int .i8 x), (2, .int .i8 y)]).run Tryz.prog w = .ok (.agg (FV Z26 x y (.slice none 0 0))) w := by
  unfold Instr.build
  go_simp
  rfl
/-- What the walk of spec.ReadFace keeps: the face's box, and all that lay before it. -/
structure RI (F : Array Value) (U : TypeId) (w W : World) : Prop where
  k : W.heap[w.heap.size]? = some (.cells F U (0, 0))
  b : Below w.heap.size w W
theorem RI.sz {F : Array Value} {U : TypeId} {w W : World} (h : RI F U w W) : w.heap.size + 1 ≤ W.heap.size := blk_lt h.k
theorem RI.step {F : Array Value} {U : TypeId} {w W W' : World} (h : RI F U w W) (hb : Below W.heap.size W W') : RI F U w W' := ⟨(hb.block _ (blk_lt h.k)).trans h.k, below_step h.b hb⟩
theorem RI.grown {F : Array Value} {U : TypeId} {w W W' : World} {o : Option Nat} (h : RI F U w W) (hg : W.grownBy W' o) (ho : o ≠ some w.heap.size) (hb : Below w.heap.size w W') : RI F U w W' := ⟨(hg.block _ (blk_lt h.k) (fun e => ho e.symm)).trans h.k, hb⟩
theorem RI.put {FA FB : Array Value} {U : TypeId} {w W : World} {v : Value} (h : RI FA U w W) (j : Nat) (hs : FA.setIfInBounds j v = FB) : RI FB U w (W.setCell ⟨w.heap.size, j, none⟩ v) := ⟨blk_put h.k j v hs, below_set h.b (Nat.le_refl _)⟩
theorem FV_setw (vs : List Int) (k : Nat) (hk : k < 26) (hv : vs.length = k) (sp gp n : Int) (v : Value) : (FV (vs ++ Z26.drop k) sp gp v).setIfInBounds k (.int .i8 n) = FV ((vs ++ [n]) ++ Z26.drop (k + 1)) sp gp v := by
  have hz : Z26.drop k = (0 : Int) :: Z26.drop (k + 1) := by
    rw [List.drop_eq_getElem_cons (show k < Z26.length from hk)]
    congr 1
    unfold Z26
    rw [List.getElem_replicate]
  unfold FV
  rw [hz, List.setIfInBounds_toArray]
  congr 1
  simp only [List.map_append, List.map_cons, List.append_assoc, List.cons_append, List.nil_append, List.map_nil]
  rw [List.set_append_right _ _ (by rw [List.length_map]; omega), List.length_map, hv, Nat.sub_self, List.set_cons_zero]
theorem FV_two (x y : Int) : (ZF.toList.set 26 (.int .i8 x)).set 27 (.int .i8 y) = (FV Z26 x y (.slice none 0 0)).toList := rfl
theorem FVw_len (vs : List Int) (k : Nat) (hk : k ≤ 26) (hv : vs.length = k) : (vs ++ Z26.drop k).length = 26 := by rw [List.length_append, List.length_drop, Z26_len]; omega
def tailRF (n1 n2 : Int) (d : List UInt8) (ws : List Int) : Option FaceV := (allM prS (if d = [] then [] else cutAt 32 [] d)).bind fun l => if validB ws n1 n2 l = true then some (ws, n1, n2, l) else none
theorem good_true {T a b c d : List UInt8} {n1 n2 : Int} (h : specRF T = ((numL b).bind fun s => (numL c).bind fun g => if (cutAt 32 [] a).length = 26 ∧ s ≤ 40 ∧ g ≤ 10 then (allM wdS (cutAt 32 [] a)).bind fun ws => (allM prS (if d = [] then [] else cutAt 32 [] d)).bind fun l => if validB ws s g l = true then some (ws, (s : Int), (g : Int), l) else none else none))
    (hb : (n1, true) = numR b) (hc : (n2, true) = numR c) (h26 : (cutAt 32 [] a).length = 26) (h40 : n1 ≤ 40) (h10 : n2 ≤ 10) : specRF T = (allM wdS (cutAt 32 [] a)).bind (tailRF n1 n2 d) := by
  rw [h]
  unfold numR at hb hc
  cases h1 : numL b with
  | none => rw [h1] at hb; simp at hb
  | some s =>
    cases h2 : numL c with
    | none => rw [h2] at hc; simp at hc
    | some g =>
      rw [h1] at hb
      rw [h2] at hc
      simp only [Prod.mk.injEq, and_true] at hb hc
      subst hb
      subst hc
      simp only [Option.bind_some]
      rw [if_pos ⟨h26, by omega, by omega⟩]
      rfl
theorem allM_snoc {α β : Type} {f : α → Option β} {l : List α} {k : Nat} (hk : k < l.length) {r : List β} (h : allM f (l.take k) = some r) {y : β} (hy : f l[k] = some y) : allM f (l.take (k + 1)) = some (r ++ [y]) := by
  rw [List.take_add_one, List.getElem?_eq_getElem hk, Option.toList_some]
  generalize l[k] = x0 at hy ⊢
  generalize l.take k = m at h ⊢
  clear hk
  induction m generalizing r with
  | nil => simp only [allM] at h; cases h; simp [allM, hy]
  | cons x m ih =>
    rw [allM] at h
    rw [List.cons_append, allM]
    cases hx : f x with
    | none => rw [hx] at h; cases h
    | some z =>
      rw [hx, Option.bind_some] at h
      cases hm : allM f m with
      | none => rw [hm] at h; cases h
      | some q =>
        rw [hm] at h
        cases h
        rw [Option.bind_some, ih hm]
        rfl
theorem allM_bad {α β : Type} {f : α → Option β} {l : List α} {x : α} (hx : x ∈ l) (h : f x = none) : allM f l = none := by
  induction l with
  | nil => cases hx
  | cons z l ih =>
    rw [allM]
    rcases List.mem_cons.1 hx with rfl | hm
    · rw [h]; rfl
    · cases f z with
      | none => rfl
      | some q => rw [Option.bind_some, ih hm]; rfl
theorem rdMk (l : List (List UInt8)) (k : Nat) (h : k < l.length) : rdOf ByteArray.empty (l.map mkB) (k : Int) = mkB l[k] := by
  unfold rdOf
  rw [List.getD_eq_getElem?_getD, Int.toNat_natCast, List.getElem?_map, List.getElem?_eq_getElem h]
  rfl
theorem wdS_num {x : List UInt8} {n : Int} {ok : Bool} (h : (n, ok) = numR x) : wdS x = (if ok = true ∧ n ≤ 40 then some n else none) := by
  unfold numR at h
  unfold wdS
  cases hx : numL x with
  | none => rw [hx] at h; cases h; rfl
  | some m =>
    rw [hx] at h
    cases h
    simp only [Option.bind_some]
    by_cases hm : m ≤ 40
    · rw [if_pos hm, if_pos ⟨trivial, by omega⟩]
    · rw [if_neg hm, if_neg (fun h => hm (by omega))]
theorem numR_nn {x : List UInt8} {n : Int} {ok : Bool} (h : (n, ok) = numR x) : 0 ≤ n := by
  unfold numR at h
  split at h <;> cases h <;> omega
theorem prS_pr {x : List UInt8} {p : Int × Int × Int × Bool} (h : p = prR x) : prS x = (if p.2.2.2 = true then some ⟨p.1, p.2.1, p.2.2.1⟩ else none) := by
  subst h
  unfold prR
  cases prS x with
  | none => rfl
  | some q => rfl
theorem prS_fit {x : List UInt8} {p : S33} (h : prS x = some p) : -10 ≤ p.f2 ∧ p.f2 ≤ 10 := by
  unfold prS at h
  split at h
  · split at h
    · rename_i r _
      cases hn : numL r with
      | none => rw [hn] at h; cases h
      | some n =>
        rw [hn, Option.bind_some] at h
        split at h
        · cases h
          dsimp only
          split <;> omega
        · cases h
    · cases h
  · cases h
theorem join_ge : ∀ ws : List (List UInt8), (∀ w ∈ ws, w ≠ []) → ws.length ≤ (Lib.join ws [32]).length
  | [], _ => Nat.zero_le _
  | [x], h => by
    have h1 : x ≠ [] := h x (by simp)
    have h2 := List.length_pos_iff.2 h1
    rw [Lib.join_one]
    exact h2
  | x :: y :: r, h => by
    have h1 : x ≠ [] := h x (by simp)
    have h2 := List.length_pos_iff.2 h1
    have h3 := join_ge (y :: r) (fun w hw => h w (List.mem_cons_of_mem _ hw))
    rw [join_cons2]
    simp only [List.length_append, List.length_cons] at h3 ⊢
    omega
theorem pairs_len {d : List UInt8} {l : List S33} (h : allM prS (if d = [] then [] else cutAt 32 [] d) = some l) (hd : d.length ≤ 1048576) : l.length ≤ 1048576 := by
  by_cases h0 : d = []
  · rw [if_pos h0] at h
    cases h
    exact Nat.zero_le _
  · rw [if_neg h0] at h
    have h1 := allM_len _ _ _ h
    have h2 := allM_some _ _ _ h
    have h3 := join_ge (cutAt 32 [] d) (fun w hw he => by
      have h4 : prS w ∈ (cutAt 32 [] d).map prS := List.mem_map.2 ⟨w, hw, rfl⟩
      rw [h2, he] at h4
      obtain ⟨y, _, hy⟩ := List.mem_map.1 h4
      cases hy)
    rw [join_cutAt, List.nil_append] at h3
    omega
theorem fit_read {vs : List Int} {n1 n2 : Int} {l : List S33} (hx : vs.length = 26) (hv : ∀ x ∈ vs, 0 ≤ x ∧ x ≤ 40) (h1 : 0 ≤ n1 ∧ n1 ≤ 40) (h2 : 0 ≤ n2 ∧ n2 ≤ 10) (hl : ∀ p ∈ l, -10 ≤ p.f2 ∧ p.f2 ≤ 10) : Fit vs n1 n2 l := by
  refine ⟨fun k hk => ?_, by omega, by omega, fun k hk => ?_⟩
  · rw [Pure.rd_get vs k (by omega)]
    have := hv _ (List.getElem_mem (show k < vs.length by omega))
    omega
  · rw [rd46_get l k hk]
    have := hl _ (List.getElem_mem hk)
    omega
theorem fit_pairs {x : List (List UInt8)} {l : List S33} (h : allM prS x = some l) : ∀ p ∈ l, -10 ≤ p.f2 ∧ p.f2 ≤ 10 := fun p hp => by
  obtain ⟨y, _, hy⟩ := allM_mem _ _ _ h p hp
  exact prS_fit hy
theorem tail_bad {n1 n2 : Int} {d : List UInt8} {ws : List Int} (h : allM prS (if d = [] then [] else cutAt 32 [] d) = none) : tailRF n1 n2 d ws = none := by unfold tailRF; rw [h]; rfl
theorem tail_some {n1 n2 : Int} {d : List UInt8} {ws : List Int} {l : List S33} (h : allM prS (if d = [] then [] else cutAt 32 [] d) = some l) : tailRF n1 n2 d ws = if validB ws n1 n2 l = true then some (ws, n1, n2, l) else none := by unfold tailRF; rw [h]; rfl
theorem readR_some {t : ByteArray} {f : FaceV} (h : specRF t.data.toList = some f) : readR t = (f, 0) := by unfold readR; rw [h]
theorem splitC (t : ByteArray) (ht : t.size ≤ 1048576) (c : UInt8) (w : World) : Calls Tryz.prog 79 #[.string t, .int .u8 (c.toNat : Int)] w fun e w' => ∃ v0_ : Value, e = .returned (v0_) ∧ Kd.R Kd.string 9 w' w.heap.size (fun _ => True) v0_ ((cutAt c [] t.data.toList).map mkB) ∧ Below w.heap.size w w' :=
  spec_l01Split.calls (t.size + 1) t (c.toNat : Int) _ w (spec_l01Split.val t c ht _ (Nat.le_refl _))
theorem splitC59 (t : ByteArray) (ht : t.size ≤ 1048576) (w : World) : Calls Tryz.prog 79 #[.string t, .int .u8 59] w fun e w' => ∃ v0_ : Value, e = .returned (v0_) ∧ Kd.R Kd.string 9 w' w.heap.size (fun _ => True) v0_ ((cutAt 59 [] t.data.toList).map mkB) ∧ Below w.heap.size w w' := splitC t ht 59 w
theorem splitC32 (l : List UInt8) (ht : l.length ≤ 1048576) (w : World) : Calls Tryz.prog 79 #[.string (mkB l), .int .u8 32] w fun e w' => ∃ v0_ : Value, e = .returned (v0_) ∧ Kd.R Kd.string 9 w' w.heap.size (fun _ => True) v0_ ((cutAt 32 [] l).map mkB) ∧ Below w.heap.size w w' := splitC (mkB l) (by rw [mk_size]; exact ht) 32 w
end Go.Proofs.YtimkkjkgbbfgbaaGreatDoor.Q
end
section
/- strings.Split at a separator that is not empty, in the printed form, out of the shelf. -/
namespace Go.Proofs.YtimkkjkgbbfgbaaGreatDoor.Q
open Go.RowKit Go.Proofs.YtimkkjkgbbfgbaaGreatDoorW.PrintWords Go.Proofs.YtimkkjkgbbfgbaaGreatDoorW.PrintLast Go.Proofs.YtimkkjkgbbfgbaaGreatDoorW.PrintMore
set_option linter.unusedVariables false

theorem R_laid (w : World) (xs : List ByteArray) (hm : xs.length ≤ 9223372036854775807) : Kd.R Kd.string 9 (w.alloc (.cells (xs.map Value.string).toArray 9)) w.heap.size (fun _ => True) (.slice (some ⟨w.heap.size, 0, none⟩) xs.length xs.length) xs := by
  have hrep : Reps (Kd.string.M w w.heap.size (fun _ => True)) Kd.string.sz xs (xs.map Value.string) := by
    refine ⟨?_, fun j p hj => ?_⟩
    · show (xs.map Value.string).length = xs.length * 1
      simp
    · show (((xs.map Value.string).drop (j * 1)).take 1) = [Value.string p]
      obtain ⟨hl, rfl⟩ := List.getElem?_eq_some_iff.1 hj
      rw [Nat.mul_one, List.drop_eq_getElem_cons (by simpa using hl)]
      simp
  refine ⟨fun k hk => trivial, xs.map Value.string, ?_, ?_⟩
  · have h2 := World.ownsRow_lit (base := w.heap.size) (e := 9) (size := Kd.string.sz) w (xs.map Value.string).toArray xs.length (Nat.le_refl _) (by simpa [maxLen] using hm) (by simpa using hrep.1)
    simpa using h2
  · refine hrep.imp_ (fun p c hp => Kd.string.M_mono (fun k hk => ⟨trivial, fun he => ?_⟩) (Kd.M_below (Kd.string.M_bound hp) (below_alloc (Below.refl _ _) _)))
    have h3 : k = w.heap.size := by simpa [Value.ownBlock] using he
    have := hk.2.2.1
    omega

def strings_Split.f (s sep : ByteArray) : Option (List ByteArray) := if s.size < 4294967281 ∧ 1 ≤ sep.size then some (Lib.splitB sep 0 (Lib.countB s sep) s) else none
theorem strings_Split.calls (a0 a1 : ByteArray) (r : List ByteArray) (w : World) (hG_ : Glob w) (h : strings_Split.f a0 a1 = some r) :
    Calls Tryz.prog 30 #[.string a0, .string a1] w fun e w' => ∃ v0_ : Value, e = .returned v0_ ∧ Kd.R Kd.string 9 w' w.heap.size (fun _ => True) v0_ r ∧ Below w.heap.size w w' := by
  unfold strings_Split.f at h
  split at h
  · rename_i hc
    obtain ⟨h1, h2⟩ := hc
    cases h
    obtain ⟨m, hm⟩ := hG_.maxLen
    have hl := Lib.splitB_all a1 h2 0 _ a0 rfl
    have hle := Lib.countB_le a1 h2 _ a0 (Nat.le_refl _)
    refine (Tryz.strings_Split a0 a1 m w h1 hm h2).mono ?_
    rintro e w' ⟨rfl, rfl⟩
    have hR := R_laid w (Lib.splitB a1 0 (Lib.countB a0 a1) a0) (by omega)
    rw [hl] at hR
    exact ⟨_, rfl, hR, below_alloc (Below.refl _ _) _⟩
  · cases h
end Go.Proofs.YtimkkjkgbbfgbaaGreatDoor.Q
end
section
-- WRITTEN BY A PROGRAM OF THIS SESSION (xprint.py, which runs the kit's printer with changes). Lean checks it.
namespace Go.Proofs.YtimkkjkgbbfgbaaGreatDoor.Q
open Go.RowKit Go.Proofs.YtimkkjkgbbfgbaaGreatDoorW.PrintWords Go.Proofs.YtimkkjkgbbfgbaaGreatDoorW.PrintLast Go.Proofs.YtimkkjkgbbfgbaaGreatDoorW.PrintMore
set_option linter.unusedVariables false
set_option linter.unusedSimpArgs false
attribute [local go_sem] max2_int min2_int max_two min_two max_three min_three max_four min_four   -- for this text's walks alone
/-! ### impl_within: function 58 -/
def impl_within.f (a0 : Int) (a1 : Int) (a2 : Int) : Option (Bool) := if a1 ≤ a0 then (some (decide (a0 ≤ a2))) else (some false)
set_option maxHeartbeats 8000000 in
set_option maxRecDepth 100000 in
theorem impl_within.calls (a0 : Int) (a1 : Int) (a2 : Int) (r : Bool) (w : World) (h : impl_within.f a0 a1 a2 = some r) :
    Calls Tryz.prog 58 #[.int .i64 a0, .int .i64 a1, .int .i64 a2] w fun e w' => e = .returned (.bool r) ∧ Drawn0 w w' := by
  have H : (if a1 ≤ a0 then (some (decide (a0 ≤ a2))) else (some false)) = some r := h
  clear h
  by_cases c4 : a1 ≤ a0
  · rw [if_pos c4] at H
    have c4b0 : decide (a1 ≤ a0) = true := decide_eq_true c4
    clear c4
    obtain rfl := Option.some.inj H
    go_enter Tryz.func58, Tryz.ntmps58
    go_wp2
    go_ret
    exact ⟨by first | rfl | (simp; done) | (simp [*]; done), by repeat (first | exact Drawn0.refl _ | apply Drawn0.step)⟩
  · rw [if_neg c4] at H
    have c4b0 : decide (a1 ≤ a0) = false := decide_eq_false c4
    clear c4
    obtain rfl := Option.some.inj H
    go_enter Tryz.func58, Tryz.ntmps58
    go_wp2
    go_ret
    exact ⟨by first | rfl | (simp; done) | (simp [*]; done), by repeat (first | exact Drawn0.refl _ | apply Drawn0.step)⟩

end Go.Proofs.YtimkkjkgbbfgbaaGreatDoor.Q
end
section
/- impl.number: a number, read by strconv.ParseInt at base ten and told again; by hand. -/
namespace Go.Proofs.YtimkkjkgbbfgbaaGreatDoor.Q
open Go.RowKit Go.Proofs.YtimkkjkgbbfgbaaGreatDoorW.PrintWords Go.Proofs.YtimkkjkgbbfgbaaGreatDoorW.PrintLast Go.Proofs.YtimkkjkgbbfgbaaGreatDoorW.PrintMore
open Go.Proofs.YtimkkjkgbbfgbaaGreatDoor.Pure
set_option linter.unusedVariables false

def numV (l : List UInt8) (most : Int) : Int × Bool := match Lib.parseIntB 64 l with
  | .ok n => if Lib.itoa n = l ∧ 0 ≤ n ∧ n ≤ most then (n, true) else (0, false)
  | _ => (0, false)
def impl_number.f (s : ByteArray) (most : Int) : Option (Int × Bool) := if s.size ≤ 4294967296 then some (numV s.data.toList most) else none

theorem dec_some (n : Int) (h0 : -9223372036854775808 ≤ n) (h1 : n ≤ 9223372036854775807) : impl_decimal.f n = some ⟨(Lib.itoa n).toArray⟩ := by
  unfold impl_decimal.f strconv_FormatInt_70.f
  rw [if_pos ⟨rfl, h0, h1⟩]
  rfl
set_option maxHeartbeats 2000000 in
set_option maxRecDepth 20000 in
theorem impl_number.calls (a0 : ByteArray) (a1 : Int) (r1 : Int) (r2 : Bool) (w : World) (hG_ : GlobFP w) (h : impl_number.f a0 a1 = some (r1, r2)) :
    Calls Tryz.prog 32 #[.string a0, .int .i64 a1] w fun e w' => e = .returned (.tuple #[.int .i64 r1, .bool r2]) ∧ Below w.heap.size w w' := by
  unfold impl_number.f at h
  split at h
  rotate_left
  · cases h
  rename_i hs
  replace h := Option.some.inj h
  unfold numV at h
  have HG := Lib.hid hG_
  cases hp : Lib.parseIntB 64 a0.data.toList with
  | ok n =>
    have HP := Lib.hid (show Calls Tryz.prog 67 #[.string a0, .int .i64 10, .int .i64 64] w fun e w' => e = .returned (.tuple #[.int .i64 n, .nilIface]) ∧ Below w.heap.size w w' from by
      refine (Tryz.strconv_ParseInt_10_at64_ok a0 (by omega) n hp w).mono ?_
      rintro e w' ⟨rfl, hw⟩
      refine ⟨rfl, ?_⟩
      rcases hw with rfl | ⟨t, rfl⟩
      · exact Below.refl _ _
      · exact Go.Joins.below_bytesWorld _ _ _ _ (Nat.le_refl _))
    have hbd := Lib.parseIntB_bounds hp
    have HD := Lib.hid (fun (W : World) (hW : Below w.heap.size w W) => impl_decimal.calls n ⟨(Lib.itoa n).toArray⟩ W (HG.out.toP.step hW) (dec_some n (by omega) (by omega)))
    rw [hp] at h
    dsimp only at h
    have HI := Lib.hid (fun (W : World) => impl_within.calls n 0 a1 (decide (0 ≤ n) && decide (n ≤ a1)) W (by
      unfold impl_within.f
      by_cases h0 : 0 ≤ n
      · rw [if_pos h0, decide_eq_true h0, Bool.true_and]
      · rw [if_neg h0, decide_eq_false h0, Bool.false_and]))
    obtain ⟨t, ht⟩ : ∃ t : ByteArray, t = ⟨(Lib.itoa n).toArray⟩ := ⟨_, rfl⟩
    rw [← ht] at HD
    have e0 : (Lib.itoa n = a0.data.toList) ↔ t = a0 := by
      rw [ht]
      constructor
      · intro e; rw [e]
      · intro e; rw [← e]
    have hbw : (decide (0 ≤ n) && decide (n ≤ a1)) = decide (0 ≤ n ∧ n ≤ a1) := by rw [Bool.decide_and]
    obtain ⟨bw, hw⟩ : ∃ bw, bw = (decide (0 ≤ n) && decide (n ≤ a1)) := ⟨_, rfl⟩
    rw [← hw] at HI
    rw [hbw] at hw
    clear hp hG_ hs hbd ht hbw
    by_cases e1 : t = a0
    · by_cases e2 : 0 ≤ n ∧ n ≤ a1
      · rw [if_pos ⟨e0.2 e1, e2⟩] at h
        rw [decide_eq_true e2] at hw
        cases h
        subst hw
        subst e1
        clear e0 e2
        go_enter Tryz.func32, Tryz.ntmps32
        go_wp2_with (first | (go_at_call 67; (with_reducible refine HP.out.mono ?_); rintro e w1 ⟨rfl, hb⟩; have HB1 := Lib.hid hb; clear hb) | (go_at_call 34; (with_reducible refine (HD.out _ HB1.out).mono ?_); rintro e w2 ⟨rfl, hb⟩; have HB2 := Lib.hid (below_step HB1.out hb); clear hb) | (go_at_call 58; (with_reducible refine (HI.out _).mono ?_); rintro e w3 ⟨rfl, nd, rfl⟩))
        go_ret2
        exact ⟨rfl, pw_below_drewN HB2.out _⟩
      · rw [if_neg (fun hh => e2 hh.2)] at h
        rw [decide_eq_false e2] at hw
        cases h
        subst hw
        subst e1
        clear e0 e2
        go_enter Tryz.func32, Tryz.ntmps32
        go_wp2_with (first | (go_at_call 67; (with_reducible refine HP.out.mono ?_); rintro e w1 ⟨rfl, hb⟩; have HB1 := Lib.hid hb; clear hb) | (go_at_call 34; (with_reducible refine (HD.out _ HB1.out).mono ?_); rintro e w2 ⟨rfl, hb⟩; have HB2 := Lib.hid (below_step HB1.out hb); clear hb) | (go_at_call 58; (with_reducible refine (HI.out _).mono ?_); rintro e w3 ⟨rfl, nd, rfl⟩))
        go_ret2
        exact ⟨rfl, pw_below_drewN HB2.out _⟩
    · rw [if_neg (fun hh => e1 (e0.1 hh.1))] at h
      cases h
      have n1 : ¬ t.toList = a0.toList := fun e => e1 (bytes_eq.1 e)
      have n2 : (t.toList == a0.toList) = false := beq_eq_false_iff_ne.2 n1
      have n3 : (t.toList != a0.toList) = true := bne_iff_ne.2 n1
      clear e0 hw e1
      go_enter Tryz.func32, Tryz.ntmps32
      go_wp2_with (first | (go_at_call 67; (with_reducible refine HP.out.mono ?_); rintro e w1 ⟨rfl, hb⟩; have HB1 := Lib.hid hb; clear hb) | (go_at_call 34; (with_reducible refine (HD.out _ HB1.out).mono ?_); rintro e w2 ⟨rfl, hb⟩; have HB2 := Lib.hid (below_step HB1.out hb); clear hb))
      go_ret2
      exact ⟨rfl, HB2.out⟩
  | range =>
    obtain ⟨tp, p, hv⟩ := hG_.toF.erng
    have HP := Lib.hid (show Calls Tryz.prog 67 #[.string a0, .int .i64 10, .int .i64 64] w fun e w' => (∃ v t p, e = .returned (.tuple #[.int .i64 v, .iface t p])) ∧ Below w.heap.size w w' from by
      refine (Tryz.strconv_ParseInt_10_at64_range_var a0 (by omega) hp tp p w hv).mono ?_
      rintro e w' ⟨M, rfl, _, _, hb⟩
      exact ⟨⟨_, _, _, rfl⟩, hb⟩)
    rw [hp] at h
    dsimp only at h
    cases h
    clear hp hG_ hs hv
    go_enter Tryz.func32, Tryz.ntmps32
    go_wp2_with (first | (go_at_call 67; (with_reducible refine HP.out.mono ?_); rintro e w1 ⟨⟨v, t, p, rfl⟩, hb⟩; have HB1 := Lib.hid hb; clear hb))
    go_ret2
    exact ⟨rfl, HB1.out⟩
  | _ =>
    obtain ⟨tp, p, hv⟩ := hG_.toF.esyn
    have HP := Lib.hid (show Calls Tryz.prog 67 #[.string a0, .int .i64 10, .int .i64 64] w fun e w' => (∃ v t p, e = .returned (.tuple #[.int .i64 v, .iface t p])) ∧ Below w.heap.size w w' from by
      refine (Tryz.strconv_ParseInt_10_at64_syntax_var a0 (by omega) hp tp p w hv).mono ?_
      rintro e w' ⟨M, rfl, _, _, hb⟩
      exact ⟨⟨_, _, _, rfl⟩, hb⟩)
    rw [hp] at h
    dsimp only at h
    cases h
    clear hp hG_ hs hv
    go_enter Tryz.func32, Tryz.ntmps32
    go_wp2_with (first | (go_at_call 67; (with_reducible refine HP.out.mono ?_); rintro e w1 ⟨⟨v, t, p, rfl⟩, hb⟩; have HB1 := Lib.hid hb; clear hb))
    go_ret2
    exact ⟨rfl, HB1.out⟩
end Go.Proofs.YtimkkjkgbbfgbaaGreatDoor.Q
end
section
-- WRITTEN BY A PROGRAM OF THIS SESSION (xprint.py, which runs the kit's printer with changes). Lean checks it.
namespace Go.Proofs.YtimkkjkgbbfgbaaGreatDoor.Q
open Go.RowKit Go.Proofs.YtimkkjkgbbfgbaaGreatDoorW.PrintWords Go.Proofs.YtimkkjkgbbfgbaaGreatDoorW.PrintLast Go.Proofs.YtimkkjkgbbfgbaaGreatDoorW.PrintMore
set_option linter.unusedVariables false
set_option linter.unusedSimpArgs false
attribute [local go_sem] max2_int min2_int max_two min_two max_three min_three max_four min_four   -- for this text's walks alone
/-! ### impl_numbersOf: function 31 -/
def impl_numbersOf.l0 : Nat → Int → Int → List Int → List ByteArray → Int → Int → Option (List Int × Bool)
  | 0, _, _, _, _, _, _ => none
  | k + 1, x1, x2, x8, x15, x16, x17 => if x17 < x16 then (if 0 ≤ x17 then (if x17 < (x15.length : Int) then ((impl_number.f (rdOf ByteArray.empty x15 x17) x2).bind fun bt236 => (if bt236.2 = true then (if x8.length < 17592186044416 then (impl_numbersOf.l0 k x1 x2 (x8 ++ [bt236.1]) x15 x16 (wrap64 (x17 + 1))) else (none)) else (some (([] : List Int), false)))) else (none)) else (none)) else (some (x8, ((x8.length : Int) == x1)))
def impl_numbersOf.f (k : Nat) (a0 : ByteArray) (a1 : Int) (a2 : Int) : Option (List Int × Bool) := (strings_Split.f a0 (⟨#[32]⟩ : ByteArray)).bind fun t232 => (impl_numbersOf.l0 k a1 a2 (([] : List Int)) t232 (t232.length : Int) 0)
theorem impl_numbersOf.mono_l : ∀ k, (∀ y0 y1 y2 y3 y4 y5, LeO (impl_numbersOf.l0 k y0 y1 y2 y3 y4 y5) (impl_numbersOf.l0 (k + 1) y0 y1 y2 y3 y4 y5))
  | 0 => fun _ _ _ _ _ _ r h => by simp [impl_numbersOf.l0] at h
  | k + 1 => by
    have ih0 := impl_numbersOf.mono_l k
    · intro y0 y1 y2 y3 y4 y5
      unfold impl_numbersOf.l0
      repeat' first
      | (with_reducible exact ih0 _ _ _ _ _ _)
      | (with_reducible exact LeO.refl _)
      | (with_reducible exact LeO.none _)
      | (with_reducible refine LeO.ite ?_ ?_)
      | (with_reducible refine LeO.bind ?_ (fun _ => ?_))
      | exact ih0 _ _ _ _ _ _
      | exact LeO.none _
      | refine LeO.ite ?_ ?_
      | refine LeO.bind ?_ (fun _ => ?_)
theorem impl_numbersOf.mono : ∀ a0 a1 a2 k, LeO (impl_numbersOf.f k a0 a1 a2) (impl_numbersOf.f (k + 1) a0 a1 a2) := by
  intro a0 a1 a2 k
  have ih0 := impl_numbersOf.mono_l k
  unfold impl_numbersOf.f
  repeat' first
      | (with_reducible exact ih0 _ _ _ _ _ _)
      | (with_reducible exact LeO.refl _)
      | (with_reducible exact LeO.none _)
      | (with_reducible refine LeO.ite ?_ ?_)
      | (with_reducible refine LeO.bind ?_ (fun _ => ?_))
      | exact ih0 _ _ _ _ _ _
      | exact LeO.none _
      | refine LeO.ite ?_ ?_
      | refine LeO.bind ?_ (fun _ => ?_)
set_option maxHeartbeats 8000000 in
set_option maxRecDepth 100000 in
theorem impl_numbersOf.calls (k : Nat) (a0 : ByteArray) (a1 : Int) (a2 : Int) (r1 : List Int) (r2 : Bool) (w : World) (hG_ : GlobFP w) (h : impl_numbersOf.f k a0 a1 a2 = some (r1, r2)) :
    Calls Tryz.prog 31 #[.string a0, .int .i64 a1, .int .i64 a2] w fun e w' => ∃ v0_ : Value, e = .returned (.tuple #[v0_, .bool r2]) ∧ Kd.R (Kd.int .i64) 2 w' w.heap.size (fun _ => True) v0_ r1 ∧ Below w.heap.size w w' := by
  have HB := Aside0.mk (Below.refl w.heap.size w)
  have H : ((strings_Split.f a0 (⟨#[32]⟩ : ByteArray)).bind fun t232 => (impl_numbersOf.l0 k a1 a2 (([] : List Int)) t232 (t232.length : Int) 0)) = some (r1, r2) := h
  clear h
  obtain ⟨y229, hy229⟩ : ∃ y_ : List Int, y_ = (([] : List Int)) := ⟨_, rfl⟩
  replace H : ((strings_Split.f a0 (⟨#[32]⟩ : ByteArray)).bind fun t232 => (impl_numbersOf.l0 k a1 a2 y229 t232 (t232.length : Int) 0)) = some (r1, r2) := by first | (rw [hy229]; with_reducible exact H) | (have H2_ := (Option.bind_some _ _).symm.trans H; rw [hy229]; with_reducible exact H2_) | (have H2_ := (Option.bind_some _ _).symm.trans H; with_reducible exact H2_) | with_reducible exact H | (rw [hy229]; exact H) | exact H
  have Ny229 := Aside0.mk hy229
  clear hy229
  replace H := Option.bind_eq_some_iff.mp H
  obtain ⟨t232, A40, H⟩ := H
  replace H : (impl_numbersOf.l0 k a1 a2 y229 t232 (t232.length : Int) 0) = some (r1, r2) := H
  have A4 := Aside0.mk A40
  clear A40
  have H' := Aside0.mk H
  clear H
  go_enter Tryz.func31, Tryz.ntmps31
  go_wp2_with (first | ((with_reducible refine gate_dst (N := 13) rfl ?_); refine Kd.R_lit (Kd.int .i64) _ 2 ?hg (N := 13) ?hd (xs := ([] : List Int)) (inner := []) (ok := fun _ => True) (okp := fun _ => True) ?hr ?hp (fun _ hk => hk) trivial (Below.refl _ _) (Nat.le_refl _) (by simp) ?_; (case hd => rfl); (case hg => rfl); (case hr => first | (go_simp; done) | (go_simp; rfl)); (case hp => exact (Reps.none _ _)); intro v230 w5 ho6 hb hg_ hnew_; clear hg_ hnew_; (first | rw [← Ny229.out] at ho6 | (simp only [Int.reduceToNat] at ho6; rw [← Ny229.out] at ho6)); have n0_ := Aside0.mk (Kd.R_lower ho6 (below_size (by repeat (first | (with_reducible first | exact HB.out | apply below_alloc | apply pw_below_drewN | apply below_drew1) | exact HB.out)))); have n1_ := Aside0.mk (below_step (by repeat (first | (with_reducible first | exact HB.out | apply below_alloc | apply pw_below_drewN | apply below_drew1) | exact HB.out)) hb); clear HB; have HO231 := n0_; have HB := n1_; clear n0_ n1_; clear hb ho6) | ((with_reducible refine gate_callee (f := 30) rfl ?_); refine goesL_ (some 15) rfl rfl Tryz.func30 (by kernel_rfl) rfl #[.string a0, .string (⟨#[32]⟩ : ByteArray)] rfl (by (try simp only [List.map_toArray, List.map_cons, List.map_nil]); first | done | rfl | (simp only [List.length_drop, List.length_take]; rfl)) ?_; (with_reducible refine (strings_Split.calls a0 (⟨#[32]⟩ : ByteArray) t232 _ ?side1 A4.out).mono ?_); (case side1 => refine Glob.step hG_.toF.glob ?_; repeat (first | (with_reducible first | exact HB.out | apply below_alloc | apply pw_below_drewN | apply below_drew1) | exact HB.out)); rintro e w7 ⟨v233, rfl, ho0, hb⟩; refine ⟨_, rfl, ?_⟩; have n0_ := Aside0.mk (Kd.R_below (by (with_reducible repeat (first | apply Kd.R_alloc | apply Kd.R_drewN | apply Kd.R_drew)); exact HO231.out) hb); have n1_ := Aside0.mk (Kd.R_lower ho0 (below_size (by repeat (first | (with_reducible first | exact HB.out | apply below_alloc | apply pw_below_drewN | apply below_drew1) | exact HB.out)))); have n2_ := Aside0.mk (below_step (by repeat (first | (with_reducible first | exact HB.out | apply below_alloc | apply pw_below_drewN | apply below_drew1) | exact HB.out)) hb); clear HO231; clear HB; have HO231 := n0_; have HO234 := n1_; have HB := n2_; clear n0_ n1_ n2_; (try clear hb); (try clear hb2); (try clear hk); (try clear hi); (try clear ho0); obtain ⟨Ao8, co8, eo8⟩ := Kd.R_slice HO234.out; subst eo8))
  go_loopg [8, 17] k (fun kq v8 v17 w' => ∃ (x8_1 : List Int) (x17_1 : Int), v17 = .int .i64 x17_1 ∧ Aside0 (impl_numbersOf.l0 kq a1 a2 x8_1 t232 (t232.length : Int) x17_1 = some (r1, r2)) ∧ Aside0 (kq ≤ k) ∧ Aside0 (Kd.R (Kd.int .i64) 2 w' w.heap.size (fun _ => True) v8 x8_1) ∧ Aside0 (Kd.R Kd.string 9 w' w.heap.size (fun _ => True) (.slice Ao8 t232.length co8) t232) ∧ Aside0 (Below w.heap.size w w'))
  case atStart => exact ⟨(y229), (0), (by first | rfl | (simp; done) | (simp [*]; done)), H', ⟨Nat.le_refl _⟩, ⟨by (with_reducible repeat (first | apply Kd.R_alloc | apply Kd.R_drewN | apply Kd.R_drew)); exact HO231.out⟩, ⟨by (with_reducible repeat (first | apply Kd.R_alloc | apply Kd.R_drewN | apply Kd.R_drew)); exact HO234.out⟩, ⟨by repeat (first | (with_reducible first | exact HB.out | apply below_alloc | apply pw_below_drewN | apply below_drew1) | exact HB.out)⟩⟩
  case round =>
    clear H'
    try clear p2
    try clear c3
    obtain ⟨x8_1, x17_1, rfl, HA, HK1, HO_8, HO_15, HB⟩ := hrel
    cases gk with
    | zero => exact absurd HA.out (by simp [impl_numbersOf.l0])
    | succ k1 =>
      have H := HA.out
      clear HA
      simp only [impl_numbersOf.l0] at H
      by_cases c9 : x17_1 < (t232.length : Int)
      · rw [if_pos c9] at H
        have c9b0 : decide (x17_1 < (t232.length : Int)) = true := decide_eq_true c9
        clear c9
        by_cases c10 : 0 ≤ x17_1
        · rw [if_pos c10] at H
          have c10b0 : decide (0 ≤ x17_1) = true := decide_eq_true c10
          clear c10
          by_cases c11 : x17_1 < (t232.length : Int)
          · rw [if_pos c11] at H
            have c11b0 : decide (x17_1 < (t232.length : Int)) = true := decide_eq_true c11
            clear c11
            replace H := Option.bind_eq_some_iff.mp H
            obtain ⟨⟨t236, t237⟩, A120, H⟩ := H
            replace H : (if t237 = true then (if x8_1.length < 17592186044416 then (impl_numbersOf.l0 k1 a1 a2 (x8_1 ++ [t236]) t232 (t232.length : Int) (wrap64 (x17_1 + 1))) else (none)) else (some (([] : List Int), false))) = some (r1, r2) := H
            have A12 := Aside0.mk A120
            clear A120
            by_cases c13 : t237 = true
            · subst c13
              have H1 : (if x8_1.length < 17592186044416 then (impl_numbersOf.l0 k1 a1 a2 (x8_1 ++ [t236]) t232 (t232.length : Int) (wrap64 (x17_1 + 1))) else (none)) = some (r1, r2) := by rw [if_pos rfl] at H; exact H
              clear H
              have H := H1
              clear H1
              by_cases c14 : x8_1.length < 17592186044416
              · rw [if_pos c14] at H
                have LMc14 := Aside0.mk c14
                clear c14
                obtain ⟨y238, hy238⟩ : ∃ y_ : List Int, y_ = (x8_1 ++ [t236]) := ⟨_, rfl⟩
                replace H : (impl_numbersOf.l0 k1 a1 a2 y238 t232 (t232.length : Int) (wrap64 (x17_1 + 1))) = some (r1, r2) := by first | (rw [hy238]; with_reducible exact H) | (have H2_ := (Option.bind_some _ _).symm.trans H; rw [hy238]; with_reducible exact H2_) | (have H2_ := (Option.bind_some _ _).symm.trans H; with_reducible exact H2_) | with_reducible exact H | (rw [hy238]; exact H) | exact H
                have Ny238 := Aside0.mk hy238
                clear hy238
                have H' := Aside0.mk H
                clear H
                have p235 : 0 ≤ (x17_1 : Int) := of_decide_eq_true (by first | (with_reducible assumption) | assumption)
                have q235 : x17_1 < (t232.length : Int) := of_decide_eq_true (by first | (with_reducible assumption) | assumption)
                obtain ⟨ad235, e235, hx235_0⟩ := Kd.at_string (Kd.R_reads' HO_15.out).2.2 x17_1 p235 q235
                cases e235
                replace p235 := eq_true p235
                replace q235 := eq_true q235
                go_wp2_with (first | ((with_reducible refine gate_callee (f := 32) rfl ?_); refine goesL_ (some 24) rfl rfl Tryz.func32 (by kernel_rfl) rfl #[.string (rdOf ByteArray.empty t232 x17_1), .int .i64 a2] rfl (by (try simp only [List.map_toArray, List.map_cons, List.map_nil]); first | done | rfl | (simp only [List.length_drop, List.length_take]; rfl)) ?_; (with_reducible refine (impl_number.calls (rdOf ByteArray.empty t232 x17_1) a2 t236 true _ ?side1 A12.out).mono ?_); (case side1 => refine GlobFP.step hG_ ?_; repeat (first | (with_reducible first | exact HB.out | apply below_alloc | apply pw_below_drewN | apply below_drew1) | exact HB.out)); rintro e w15 ⟨rfl, hb⟩; refine ⟨_, rfl, ?_⟩; have n0_ := Aside0.mk (Kd.R_below (by (with_reducible repeat (first | apply Kd.R_alloc | apply Kd.R_drewN | apply Kd.R_drew)); exact HO_8.out) hb); have n1_ := Aside0.mk (Kd.R_below (by (with_reducible repeat (first | apply Kd.R_alloc | apply Kd.R_drewN | apply Kd.R_drew)); exact HO_15.out) hb); have n2_ := Aside0.mk (below_step (by repeat (first | (with_reducible first | exact HB.out | apply below_alloc | apply pw_below_drewN | apply below_drew1) | exact HB.out)) hb); clear HO_8; clear HO_15; clear HB; have HO_8 := n0_; have HO_15 := n1_; have HB := n2_; clear n0_ n1_ n2_; (try clear hb); (try clear hb2); (try clear hk); (try clear hi)) | ((with_reducible refine gate_builtin (b := .append) (xs := #[.tmp 29, .tmp 31]) rfl ?_); at_builtin; refine Kd.R_append (Kd.int .i64) (w0 := w) w.heap.size rfl (.tmp 29) (.tmp 31) 50 2 (.int .i64 0) 8 rfl Tryz.underlying50 info2 rfl (by decide) (by omega) u8 x8_1 t236 [.int .i64 t236] (fun _ => True) (fun _ => False) rfl rfl ?aP (fun _ hk => hk.elim) ?aF ?aO ?aB ?aS ?aL ?_; (case aP => exact rfl); (case aB => exact (by repeat (first | (with_reducible first | exact HB.out | apply below_alloc | apply pw_below_drewN | apply below_drew1) | exact HB.out))); (case aF => exact (fun _ _ => trivial)); (case aO => exact (by (with_reducible repeat (first | apply Kd.R_alloc | apply Kd.R_drewN | apply Kd.R_drew)); exact HO_8.out)); (case aS => exact (below_size (by repeat (first | (with_reducible first | exact HB.out | apply below_alloc | apply pw_below_drewN | apply below_drew1) | exact HB.out)))); (case aL => have := LMc14.out; omega); intro v239 w16 ho hb hg hat; rw [← Ny238.out] at ho; have n0_ := Aside0.mk (Kd.R_over' (by (with_reducible repeat (first | apply Kd.R_alloc | apply Kd.R_drewN | apply Kd.R_drew)); exact HO_15.out) (Kd.R_typed (by (with_reducible repeat (first | apply Kd.R_alloc | apply Kd.R_drewN | apply Kd.R_drew)); exact HO_8.out)) (by decide) hg); have n1_ := Aside0.mk (hb); have n2_ := Aside0.mk (ho); clear HO_15; clear HB; clear HO_8; have HO_15 := n0_; have HB := n1_; have HO240 := n2_; clear n0_ n1_ n2_; clear ho hb hg hat))
                go_roundg k1
                case measure => have := HK1.out; omega
                case rel => exact ⟨(y238), (wrap64 (x17_1 + 1)), (by first | rfl | (simp; done) | (simp [*]; done)), H', ⟨by have := HK1.out; omega⟩, ⟨by (with_reducible repeat (first | apply Kd.R_alloc | apply Kd.R_drewN | apply Kd.R_drew)); exact HO240.out⟩, ⟨by (with_reducible repeat (first | apply Kd.R_alloc | apply Kd.R_drewN | apply Kd.R_drew)); exact HO_15.out⟩, ⟨by repeat (first | (with_reducible first | exact HB.out | apply below_alloc | apply pw_below_drewN | apply below_drew1) | exact HB.out)⟩⟩
              · rw [if_neg c14] at H
                exact absurd H (by simp)
            · replace c13 := Bool.eq_false_iff.mpr c13
              subst c13
              have H1 : (some (([] : List Int), false)) = some (r1, r2) := by rw [if_neg (show ¬ (false = true) by decide)] at H; exact H
              clear H
              have H := H1
              clear H1
              simp only [Option.some.injEq, Prod.mk.injEq] at H
              obtain ⟨rfl, rfl⟩ := H
              have p235 : 0 ≤ (x17_1 : Int) := of_decide_eq_true (by first | (with_reducible assumption) | assumption)
              have q235 : x17_1 < (t232.length : Int) := of_decide_eq_true (by first | (with_reducible assumption) | assumption)
              obtain ⟨ad235, e235, hx235_0⟩ := Kd.at_string (Kd.R_reads' HO_15.out).2.2 x17_1 p235 q235
              cases e235
              replace p235 := eq_true p235
              replace q235 := eq_true q235
              go_wp2_with (first | ((with_reducible refine gate_callee (f := 32) rfl ?_); refine goesL_ (some 24) rfl rfl Tryz.func32 (by kernel_rfl) rfl #[.string (rdOf ByteArray.empty t232 x17_1), .int .i64 a2] rfl (by (try simp only [List.map_toArray, List.map_cons, List.map_nil]); first | done | rfl | (simp only [List.length_drop, List.length_take]; rfl)) ?_; (with_reducible refine (impl_number.calls (rdOf ByteArray.empty t232 x17_1) a2 t236 false _ ?side1 A12.out).mono ?_); (case side1 => refine GlobFP.step hG_ ?_; repeat (first | (with_reducible first | exact HB.out | apply below_alloc | apply pw_below_drewN | apply below_drew1) | exact HB.out)); rintro e w17 ⟨rfl, hb⟩; refine ⟨_, rfl, ?_⟩; have n0_ := Aside0.mk (Kd.R_below (by (with_reducible repeat (first | apply Kd.R_alloc | apply Kd.R_drewN | apply Kd.R_drew)); exact HO_8.out) hb); have n1_ := Aside0.mk (Kd.R_below (by (with_reducible repeat (first | apply Kd.R_alloc | apply Kd.R_drewN | apply Kd.R_drew)); exact HO_15.out) hb); have n2_ := Aside0.mk (below_step (by repeat (first | (with_reducible first | exact HB.out | apply below_alloc | apply pw_below_drewN | apply below_drew1) | exact HB.out)) hb); clear HO_8; clear HO_15; clear HB; have HO_8 := n0_; have HO_15 := n1_; have HB := n2_; clear n0_ n1_ n2_; (try clear hb); (try clear hb2); (try clear hk); (try clear hi)))
              go_ret2
              exact ⟨_, by first | rfl | (simp [errW_none, errW_some] <;> rfl) | (simp [*, errW_none, errW_some] <;> rfl), by first | exact Kd.R_nil _ _ _ _ _ | exact Kd.N_nil _ _ _ _ _ | exact Kd.V_nil _ _ _ _ _ | exact Kd.Q_nil _ _ _ _ _ | exact Kd.S_nil _ _ _ _ _, by repeat (first | (with_reducible first | exact HB.out | apply below_alloc | apply pw_below_drewN | apply below_drew1) | exact HB.out)⟩
          · rw [if_neg c11] at H
            exact absurd H (by simp)
        · rw [if_neg c10] at H
          exact absurd H (by simp)
      · rw [if_neg c9] at H
        have c9b0 : decide (x17_1 < (t232.length : Int)) = false := decide_eq_false c9
        clear c9
        simp only [Option.some.injEq, Prod.mk.injEq] at H
        obtain ⟨rfl, rfl⟩ := H
        obtain ⟨Ao18, co18, eo18⟩ := Kd.R_slice HO_8.out
        subst eo18
        go_wp2
        go_ret2
        exact ⟨_, by first | rfl | (simp [errW_none, errW_some] <;> rfl) | (simp [*, errW_none, errW_some] <;> rfl), by (with_reducible repeat (first | apply Kd.R_alloc | apply Kd.R_drewN | apply Kd.R_drew)); exact HO_8.out, by repeat (first | (with_reducible first | exact HB.out | apply below_alloc | apply pw_below_drewN | apply below_drew1) | exact HB.out)⟩

end Go.Proofs.YtimkkjkgbbfgbaaGreatDoor.Q
end
section
/- strings.Split at one byte; the numbers of a text, as the program reads them. -/
namespace Go.Proofs.YtimkkjkgbbfgbaaGreatDoor.Q
open Go.RowKit Go.Proofs.YtimkkjkgbbfgbaaGreatDoorW.PrintWords Go.Proofs.YtimkkjkgbbfgbaaGreatDoorW.PrintLast Go.Proofs.YtimkkjkgbbfgbaaGreatDoorW.PrintMore
open Go.Proofs.YtimkkjkgbbfgbaaGreatDoor.Pure Go.Lib
set_option linter.unusedVariables false
set_option linter.unusedSimpArgs false

theorem first_at (c : UInt8) (s : List UInt8) : (Lib.index s [c] = -1 ∧ c ∉ s) ∨ ∃ i : Nat, Lib.index s [c] = i ∧ s = s.take i ++ c :: s.drop (i + 1) ∧ c ∉ s.take i ∧ i < s.length := by
  rw [Lib.index_one]
  have hg := Lib.indexByte_ge s c
  by_cases h : Lib.indexByte s c = -1
  · refine Or.inl ⟨h, fun hm => ?_⟩
    obtain ⟨i, hi⟩ := List.getElem?_of_mem hm
    exact Lib.indexByte_none h i hi
  · obtain ⟨i, hi⟩ : ∃ i : Nat, Lib.indexByte s c = i := ⟨(Lib.indexByte s c).toNat, by omega⟩
    obtain ⟨h1, h2⟩ := Lib.indexByte_some hi
    obtain ⟨hlt, h3⟩ := List.getElem?_eq_some_iff.1 h1
    refine Or.inr ⟨i, hi, ?_, fun hm => ?_, hlt⟩
    · conv => lhs; rw [← List.take_append_drop i s, List.drop_eq_getElem_cons hlt, h3]
    · obtain ⟨j, hj⟩ := List.getElem?_of_mem hm
      have hjl : j < i := by
        have := (List.getElem?_eq_some_iff.1 hj).1
        rw [List.length_take] at this
        omega
      rw [List.getElem?_take_of_lt hjl] at hj
      exact h2 j hjl hj

theorem splitK_cut (c : UInt8) : ∀ (k : Nat) (s : List UInt8), s.count c ≤ k → Lib.splitK [c] 0 k s = cutAt c [] s := by
  intro k
  induction k with
  | zero =>
    intro s h
    have : c ∉ s := fun hm => by have := List.count_pos_iff.2 hm; omega
    rw [cutAt_none c s [] this]
    rfl
  | succ k ih =>
    intro s h
    rcases first_at c s with ⟨h1, h2⟩ | ⟨i, h1, h2, h3, h4⟩
    · rw [Lib.splitK, if_pos (beq_iff_eq.2 h1), cutAt_none c s [] h2]
      rfl
    · have e : ¬ (Lib.index s [c] == -1) = true := fun e => by have := beq_iff_eq.1 e; omega
      have hc : (s.drop (i + 1)).count c ≤ k := by
        have := congrArg (List.count c) h2
        rw [List.count_append, List.count_cons_self] at this
        omega
      rw [Lib.splitK, if_neg e, h1]
      show s.take ((i : Int).toNat + 0) :: Lib.splitK [c] 0 k (s.drop ((i : Int).toNat + 1)) = _
      rw [Int.toNat_natCast, Nat.add_zero, ih _ hc]
      conv => rhs; rw [h2, cutAt_hit c _ _ [] h3]
      rfl

def cutsB (c : UInt8) (s : ByteArray) : List ByteArray := (cutAt c [] s.data.toList).map fun l => (⟨l.toArray⟩ : ByteArray)
theorem cutsB_len (c : UInt8) (s : ByteArray) : 1 ≤ (cutsB c s).length ∧ (cutsB c s).length ≤ s.size + 1 := by
  have := cutAt_len c s.data.toList []
  unfold cutsB
  rw [List.length_map]
  rw [data_length] at this
  exact this
theorem cutsB_mem (c : UInt8) (s x : ByteArray) (h : x ∈ cutsB c s) : x.size ≤ s.size := by
  obtain ⟨l, hl, rfl⟩ := List.mem_map.1 h
  have := cutAt_mem c _ _ l hl
  rw [data_length] at this
  show l.toArray.size ≤ _
  simpa using this
theorem strings_Split.val (s : ByteArray) (c : UInt8) (hs : s.size < 4294967281) : strings_Split.f s ⟨#[c]⟩ = some (cutsB c s) := by
  unfold strings_Split.f
  rw [if_pos ⟨hs, Nat.le_refl 1⟩]
  congr 1
  have h := Lib.splitB_data (⟨#[c]⟩ : ByteArray) 0 (Lib.countB s ⟨#[c]⟩) s
  have h2 : Lib.splitK [c] 0 (Lib.countB s ⟨#[c]⟩) s.data.toList = cutAt c [] s.data.toList := splitK_cut c _ _ (by
    have : Lib.countB s ⟨#[c]⟩ = Lib.count s.data.toList [c] := rfl
    rw [this, Lib.count_one]
    exact Nat.le_refl _)
  have h3 : (Lib.splitB (⟨#[c]⟩ : ByteArray) 0 (Lib.countB s ⟨#[c]⟩) s).map (·.data.toList) = cutAt c [] s.data.toList := h.trans h2
  unfold cutsB
  rw [← h3, List.map_map]
  conv => lhs; rw [← List.map_id (Lib.splitB _ _ _ _)]
  rfl

theorem numV_is (l : List UInt8) (most : Int) : numV l most = match numI most l with | some n => (n, true) | none => (0, false) := by
  unfold numV numI
  cases h : parseIntB 64 l with
  | ok n =>
    simp only
    by_cases hc : itoa n = l ∧ 0 ≤ n ∧ n ≤ most
    · rw [if_pos hc, if_pos hc]
    · rw [if_neg hc, if_neg hc]
  | _ => rfl
def numsR (ws : List (List UInt8)) (many most : Int) : List Int × Bool := match allM (numI most) ws with | some r => (r, (r.length : Int) == many) | none => ([], false)
theorem numbers_loop (most many : Int) (ws : List (List UInt8)) (hl : ws.length ≤ 1048577) (hs : ∀ w ∈ ws, w.length ≤ 1048576) : ∀ d i k (acc : List Int), i + d = ws.length → d < k → acc.length = i →
    impl_numbersOf.l0 k many most acc (ws.map mkB) ((ws.map mkB).length : Int) (i : Nat) = some (match allM (numI most) (ws.drop i) with | some r => (acc ++ r, ((acc ++ r).length : Int) == many) | none => ([], false)) := by
  intro d
  induction d with
  | zero =>
    intro i k acc hi hk ha
    obtain ⟨k, rfl⟩ : ∃ m, k = m + 1 := ⟨k - 1, by omega⟩
    rw [impl_numbersOf.l0, if_neg (by rw [List.length_map]; omega), List.drop_of_length_le (by omega)]
    simp [allM]
  | succ d ih =>
    intro i k acc hi hk ha
    obtain ⟨k, rfl⟩ : ∃ m, k = m + 1 := ⟨k - 1, by omega⟩
    have hlt : i < ws.length := by omega
    have hlm : (ws.map mkB).length = ws.length := List.length_map ..
    rw [impl_numbersOf.l0, if_pos (by omega), if_pos (by omega), if_pos (by omega), rdOf_get _ (ws.map mkB) i (by omega), List.getElem_map]
    have hw := hs _ (List.getElem_mem hlt)
    have hf : impl_number.f (mkB ws[i]) most = some (numV ws[i] most) := by
      unfold impl_number.f
      rw [if_pos (by rw [mk_size]; omega), mk_data]
    rw [hf, Option.bind_some, numV_is, List.drop_eq_getElem_cons hlt]
    cases hn : numI most ws[i] with
    | none =>
      simp only [Bool.false_eq_true, if_false]
      rw [allM_cons_none _ _ _ hn]
    | some n =>
      simp only [if_true]
      rw [if_pos (by omega), wrap_succ (i := i) (n := ws.length) hlt (by omega), ih (i + 1) k (acc ++ [n]) (by omega) (by omega) (by simp [ha]), allM_cons_some _ _ _ _ hn]
      cases allM (numI most) (ws.drop (i + 1)) with
      | none => rfl
      | some r => simp [List.append_assoc]
theorem impl_numbersOf.val (a : ByteArray) (ha : a.size ≤ 1048576) (many most : Int) (k : Nat) (hk : a.size + 3 ≤ k) : impl_numbersOf.f k a many most = some (numsR (cutAt 32 [] a.data.toList) many most) := by
  unfold impl_numbersOf.f
  rw [strings_Split.val a 32 (by omega), Option.bind_some]
  have hc := cutAt_len 32 a.data.toList []
  have hsz : a.data.toList.length = a.size := by rw [Array.length_toList]; rfl
  have := numbers_loop most many (cutAt 32 [] a.data.toList) (by omega) (fun w hw => by have := cutAt_mem 32 a.data.toList [] w hw; simp only [List.length_nil] at this; omega) (cutAt 32 [] a.data.toList).length 0 k [] (by omega) (by omega) rfl
  rw [List.drop_zero] at this
  have e : cutsB 32 a = (cutAt 32 [] a.data.toList).map mkB := rfl
  rw [e]
  unfold numsR
  simpa using this
end Go.Proofs.YtimkkjkgbbfgbaaGreatDoor.Q
end
section
/- impl.ReadFace, by hand: the callees in the walk's words, the plain steps. -/
namespace Go.Proofs.YtimkkjkgbbfgbaaGreatDoor.Q
open Go.RowKit Go.Proofs.YtimkkjkgbbfgbaaGreatDoorW.PrintWords Go.Proofs.YtimkkjkgbbfgbaaGreatDoorW.PrintLast Go.Proofs.YtimkkjkgbbfgbaaGreatDoorW.PrintMore
open Go.Proofs.YtimkkjkgbbfgbaaGreatDoor.Pure
set_option linter.unusedVariables false
set_option linter.unusedSimpArgs false

theorem splitI (t : ByteArray) (ht : t.size ≤ 1048576) (w : World) (hG : GlobFP w) : Calls Tryz.prog 30 #[.string t, .string ⟨#[59]⟩] w fun e w' => ∃ v0_ : Value, e = .returned v0_ ∧ Kd.R Kd.string 9 w' w.heap.size (fun _ => True) v0_ ((cutAt 59 [] t.data.toList).map mkB) ∧ Below w.heap.size w w' :=
  strings_Split.calls t ⟨#[59]⟩ _ w hG.toF.glob (strings_Split.val t 59 (by omega))
theorem numsI (l : List UInt8) (hl : l.length ≤ 1048576) (w : World) (hG : GlobFP w) (r : List Int) (ok : Bool) (h : numsR (cutAt 32 [] l) 26 40 = (r, ok)) : Calls Tryz.prog 31 #[.string (mkB l), .int .i64 26, .int .i64 40] w fun e w' => ∃ v0_ : Value, e = .returned (.tuple #[v0_, .bool ok]) ∧ Kd.R (Kd.int .i64) 2 w' w.heap.size (fun _ => True) v0_ r ∧ Below w.heap.size w w' :=
  impl_numbersOf.calls (l.length + 3) (mkB l) 26 40 r ok w hG ((impl_numbersOf.val (mkB l) (by rw [mk_size]; exact hl) 26 40 _ (by rw [mk_size]; exact Nat.le_refl _)).trans (by rw [mk_data, h]))
def numQ (most : Int) (l : List UInt8) : Int × Bool := match numI most l with | some n => (n, true) | none => (0, false)
theorem numqC (l : List UInt8) (hl : l.length ≤ 1048576) (most : Int) (w : World) (hG : GlobFP w) (n : Int) (ok : Bool) (h : numQ most l = (n, ok)) : Calls Tryz.prog 32 #[.string (mkB l), .int .i64 most] w fun e w' => e = .returned (.tuple #[.int .i64 n, .bool ok]) ∧ Below w.heap.size w w' :=
  impl_number.calls (mkB l) most n ok w hG (by unfold impl_number.f; rw [if_pos (by rw [mk_size]; omega), mk_data, numV_is]; exact congrArg some h)
theorem fieldsC (l : List UInt8) (hl : l.length ≤ 1048576) (w : World) (hG : GlobFP w) : Calls Tryz.prog 33 #[.string (mkB l)] w fun e w' => ∃ v0_ : Value, e = .returned v0_ ∧ Kd.R Kd.string 9 w' w.heap.size (fun _ => True) v0_ ((Lib.fieldsD l).map mkB) ∧ Below w.heap.size w w' :=
  strings_Fields.calls (mkB l) _ w hG.toF (by unfold strings_Fields.f; rw [if_pos (by rw [mk_size]; omega)]; rfl)
theorem readI_none {t : ByteArray} (h : implRF t.data.toList = none) : readR t = (noFaceV, 5) := readR_none ((readFace_same _).trans h)
theorem implRF_len {t : List UInt8} (h : (cutAt 59 [] t).length ≠ 4) : implRF t = none := by
  unfold implRF
  split
  · rename_i hc
    rw [hc] at h
    exact absurd rfl h
  · rfl
def tailI (T : List UInt8) (n1 n2 : Int) (d : List UInt8) (ws : List Int) : Option FaceV := (allM prI (Lib.fieldsD d)).bind fun l => if (faceTextR ws n1 n2 l).data.toList = T then some (ws, n1, n2, l) else none
theorem implRF_four {t a b c d : List UInt8} (h : cutAt 59 [] t = [a, b, c, d]) : implRF t = ((allM (numI 40) (cutAt 32 [] a)).bind fun ws => (numI 40 b).bind fun s => (numI 10 c).bind fun g => if ws.length = 26 then tailI t s g d ws else none) := by
  unfold implRF
  rw [h]
  rfl
theorem goodI_false {T a b c d : List UInt8} (h : implRF T = ((allM (numI 40) (cutAt 32 [] a)).bind fun ws => (numI 40 b).bind fun s => (numI 10 c).bind fun g => if ws.length = 26 then tailI T s g d ws else none))
    (hg : ((numsR (cutAt 32 [] a) 26 40).2 && (numQ 40 b).2 && (numQ 10 c).2) = false) : implRF T = none := by
  rw [h]
  unfold numsR numQ at hg
  cases h1 : allM (numI 40) (cutAt 32 [] a) with
  | none => rfl
  | some ws =>
    cases h2 : numI 40 b with
    | none => rfl
    | some s =>
      cases h3 : numI 10 c with
      | none => rfl
      | some g =>
        rw [h1, h2, h3] at hg
        simp only [Option.bind_some]
        rw [if_neg]
        intro h26
        simp [h26] at hg
theorem goodI_true {T a b c d : List UInt8} {ws : List Int} {n1 n2 : Int} (h : implRF T = ((allM (numI 40) (cutAt 32 [] a)).bind fun ws => (numI 40 b).bind fun s => (numI 10 c).bind fun g => if ws.length = 26 then tailI T s g d ws else none))
    (hw : numsR (cutAt 32 [] a) 26 40 = (ws, true)) (hb : numQ 40 b = (n1, true)) (hc : numQ 10 c = (n2, true)) : implRF T = tailI T n1 n2 d ws ∧ ws.length = 26 ∧ (∀ x ∈ ws, 0 ≤ x ∧ x ≤ 40) ∧ (0 ≤ n1 ∧ n1 ≤ 40) ∧ 0 ≤ n2 ∧ n2 ≤ 10 := by
  rw [h]
  unfold numsR at hw
  unfold numQ at hb hc
  cases h1 : allM (numI 40) (cutAt 32 [] a) with
  | none => rw [h1] at hw; simp at hw
  | some vs =>
    cases h2 : numI 40 b with
    | none => rw [h2] at hb; simp at hb
    | some s =>
      cases h3 : numI 10 c with
      | none => rw [h3] at hc; simp at hc
      | some g =>
        rw [h1] at hw
        rw [h2] at hb
        rw [h3] at hc
        simp only [Prod.mk.injEq, and_true] at hb hc
        simp only [Prod.mk.injEq] at hw
        obtain ⟨rfl, hw2⟩ := hw
        subst hb
        subst hc
        have h26 : vs.length = 26 := by have := eq_of_beq hw2; omega
        simp only [Option.bind_some]
        rw [if_pos h26]
        exact ⟨rfl, h26, fun x hx => by obtain ⟨y, _, hy⟩ := allM_mem _ _ _ h1 x hx; exact numI_range hy, numI_range h2, numI_range h3⟩
theorem prI_short {x : List UInt8} (h : x.length < 4) : prI x = none := by
  match x, h with
  | [], _ => rfl
  | [_], _ => rfl
  | [_, _], _ => rfl
  | [_, _, _], _ => rfl
theorem prI_long {x : List UInt8} (h : 4 ≤ x.length) {n : Int} {ok : Bool} (hn : numQ 10 (x.drop 3) = (n, ok)) : prI x = (if ok = true then some ⟨((x[0]'(by omega)).toNat : Int), ((x[1]'(by omega)).toNat : Int), if (x[2]'(by omega)) = 45 then -n else n⟩ else none) ∧ 0 ≤ n ∧ n ≤ 10 := by
  match x, h with
  | a :: b :: c :: r :: s, _ =>
    unfold numQ at hn
    simp only [List.drop_succ_cons, List.drop_zero] at hn
    show (if (r :: s : List UInt8) = [] then none else (numI 10 (r :: s)).bind fun n => some (⟨(a.toNat : Int), (b.toNat : Int), if c = 45 then -n else n⟩ : S33)) = (if ok = true then some (⟨(a.toNat : Int), (b.toNat : Int), if c = 45 then -n else n⟩ : S33) else none) ∧ 0 ≤ n ∧ n ≤ 10
    rw [if_neg (by simp)]
    cases h1 : numI 10 (r :: s) with
    | none =>
      rw [h1] at hn
      cases hn
      exact ⟨rfl, by decide, by decide⟩
    | some m =>
      rw [h1] at hn
      cases hn
      exact ⟨rfl, numI_range h1⟩
theorem tailI_bad {T : List UInt8} {n1 n2 : Int} {d : List UInt8} {ws : List Int} (h : allM prI (Lib.fieldsD d) = none) : tailI T n1 n2 d ws = none := by unfold tailI; rw [h]; rfl
theorem tailI_some {T : List UInt8} {n1 n2 : Int} {d : List UInt8} {ws : List Int} {l : List S33} (h : allM prI (Lib.fieldsD d) = some l) : tailI T n1 n2 d ws = if (faceTextR ws n1 n2 l).data.toList = T then some (ws, n1, n2, l) else none := by unfold tailI; rw [h]; rfl
theorem readI_some {t : ByteArray} {f : FaceV} (h : implRF t.data.toList = some f) : readR t = (f, 0) := readR_some ((readFace_same _).trans h)
theorem fitI_pairs {x : List (List UInt8)} {l : List S33} (h : allM prI x = some l) : ∀ p ∈ l, -10 ≤ p.f2 ∧ p.f2 ≤ 10 := fun p hp => by
  obtain ⟨y, _, hy⟩ := allM_mem _ _ _ h p hp
  by_cases h4 : y.length < 4
  · rw [prI_short h4] at hy; cases hy
  · obtain ⟨q, hq⟩ : ∃ q, numQ 10 (y.drop 3) = q := ⟨_, rfl⟩
    obtain ⟨n, ok⟩ := q
    obtain ⟨h1, h2, h3⟩ := prI_long (by omega) hq
    rw [hy] at h1
    cases ok with
    | false => cases h1
    | true =>
      cases h1
      dsimp only
      split <;> omega
theorem FV_take {ws : List Int} (hx : ws.length = 26) (k : Nat) (hk : k < 26) (sp gp : Int) (v : Value) : (FV (ws.take k ++ Z26.drop k) sp gp v).setIfInBounds k (.int .i8 ws[k]) = FV (ws.take (k + 1) ++ Z26.drop (k + 1)) sp gp v := by
  rw [FV_setw _ k hk (by rw [List.length_take]; omega), List.take_add_one, List.getElem?_eq_getElem (by omega), Option.toList_some]
theorem FV_all {ws : List Int} (hx : ws.length = 26) (k : Nat) (hk : 26 ≤ k) : ws.take k ++ Z26.drop k = ws := by
  rw [List.take_of_length_le (by omega), List.drop_eq_nil_of_le (by rw [Z26_len]; omega), List.append_nil]
end Go.Proofs.YtimkkjkgbbfgbaaGreatDoor.Q
end
