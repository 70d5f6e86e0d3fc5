/- A face, read from its text: to split, parse and check it is to read it loosely and to tell it again. -/
import Derived.Test.YtkldhleiipfaaaaDoorQhandFImpl
import Derived.Test.YtkldhleiipfaaaaDoorQpureRS
import Derived.Shelf.Strings.FieldsAny
namespace Go.Proofs.YtkldhleiipfaaaaDoor.Q
open Go.RowKit Go.Proofs.YtkldhleiipfaaaaDoorW.PrintWords Go.Proofs.YtkldhleiipfaaaaDoorW.PrintLast Go.Proofs.YtkldhleiipfaaaaDoorW.PrintMore
open Go.Proofs.YtkldhleiipfaaaaDoor.Pure Go.Lib
set_option linter.unusedVariables false
set_option linter.unusedSimpArgs false

def allM {α β : Type} (f : α → Option β) : List α → Option (List β)
  | [] => some []
  | x :: r => (f x).bind fun y => (allM f r).map fun q => y :: q
theorem allM_some {α β : Type} (f : α → Option β) : ∀ (l : List α) (r : List β), allM f l = some r → l.map f = r.map some := by
  intro l
  induction l with
  | nil => intro r h; simp [allM] at h; subst h; rfl
  | cons x l ih =>
    intro r h
    rw [allM] at h
    cases hx : f x with
    | none => rw [hx] at h; cases h
    | some y =>
      rw [hx, Option.bind_some] at h
      cases hl : allM f l with
      | none => rw [hl] at h; cases h
      | some q =>
        rw [hl] at h
        cases h
        rw [List.map_cons, List.map_cons, hx, ih q hl]
theorem allM_of {α β : Type} (f : α → Option β) (g : β → α) : ∀ (r : List β), (∀ y ∈ r, f (g y) = some y) → allM f (r.map g) = some r := by
  intro r
  induction r with
  | nil => intro _; rfl
  | cons y r ih =>
    intro h
    rw [List.map_cons, allM, h y (List.mem_cons_self ..), Option.bind_some, ih (fun z hz => h z (List.mem_cons_of_mem _ hz))]
    rfl
theorem allM_back {α β : Type} (f : α → Option β) (g : β → α) (hfg : ∀ x y, f x = some y → x = g y) (l : List α) (r : List β) (h : allM f l = some r) : l = r.map g := by
  have := allM_some f l r h
  clear h
  induction l generalizing r with
  | nil => cases r with
    | nil => rfl
    | cons y r => simp at this
  | cons x l ih =>
    cases r with
    | nil => simp at this
    | cons y r =>
      simp only [List.map_cons, List.cons.injEq] at this
      rw [List.map_cons, ih r this.2, hfg x y this.1]
theorem allM_len {α β : Type} (f : α → Option β) (l : List α) (r : List β) (h : allM f l = some r) : r.length = l.length := by
  have := congrArg List.length (allM_some f l r h)
  simpa using this.symm

/-- A number of digits, as the reference reads it. -/
def numL (l : List UInt8) : Option Nat := if l = [] ∨ 10 < l.length ∨ (l.head? = some 48 ∧ 1 < l.length) then none else valD 0 l
theorem allM_backP {α β : Type} (f : α → Option β) (g : β → α) (P : β → Prop) (hfg : ∀ x y, f x = some y → P y → x = g y) (l : List α) (r : List β) (h : allM f l = some r) (hP : ∀ y ∈ r, P y) : l = r.map g := by
  have := allM_some f l r h
  clear h
  induction l generalizing r with
  | nil => cases r with
    | nil => rfl
    | cons y r => simp at this
  | cons x l ih =>
    cases r with
    | nil => simp at this
    | cons y r =>
      simp only [List.map_cons, List.cons.injEq] at this
      rw [List.map_cons, ih r (fun z hz => hP z (List.mem_cons_of_mem _ hz)) this.2, hfg x y this.1 (hP y (List.mem_cons_self ..))]
theorem numL_back {r : List UInt8} {n : Nat} (h : numL r = some n) : r = decDigits n := by
  unfold numL at h
  split at h
  · cases h
  · rename_i hc
    rw [not_or, not_or] at hc
    refine val_dec (r.length - 1) r n ?_ h ?_
    · have := List.length_pos_iff.2 hc.1; omega
    · intro hl b q e hb
      refine hc.2.2 ⟨?_, hl⟩
      rw [e]
      show some b = some 48
      congr 1
      exact UInt8.toNat_inj.1 hb
theorem numL_dec (n : Nat) (hn : n ≤ 9999) : numL (decDigits n) = some n := by
  have hl : (decDigits n).length ≤ 4 := decDigits_len n 3 (by omega)
  unfold numL
  rw [if_neg, Pure.dec_val]
  rintro (h | h | ⟨h, hl2⟩)
  · exact dec_ne _ h
  · omega
  · by_cases h9 : n = 0
    · rw [h9, decDigits_one (by decide)] at hl2
      simp at hl2
    · obtain ⟨b, r, e, hb⟩ := dec_head _ h9
      rw [e] at h
      cases h
      exact hb rfl
/-- .. as the program reads it. -/
def numI (most : Int) (l : List UInt8) : Option Int := match parseIntB 64 l with
  | .ok n => if itoa n = l ∧ 0 ≤ n ∧ n ≤ most then some n else none
  | _ => none
theorem numI_dec (most : Int) (n : Nat) (hn : (n : Int) ≤ most) (h9 : n ≤ 9999) : numI most (decDigits n) = some (n : Int) := by
  unfold numI
  rw [parse_dec _ (by omega)]
  simp only
  rw [if_pos ⟨by rw [Lib.itoa_nonneg], by omega, hn⟩]
theorem numI_range {most : Int} {l : List UInt8} {n : Int} (h : numI most l = some n) : 0 ≤ n ∧ n ≤ most := by
  unfold numI at h
  split at h
  · split at h
    · rename_i hc
      cases h
      exact hc.2
    · cases h
  · cases h
def wdS (l : List UInt8) : Option Int := (numL l).bind fun n => if n ≤ 40 then some (n : Int) else none
def prS : List UInt8 → Option S48
  | a :: b :: c :: r => if c = 43 ∨ c = 45 then (numL r).bind fun n => if n ≤ 10 then some ⟨(a.toNat : Int), (b.toNat : Int), if c = 45 then -(n : Int) else n⟩ else none else none
  | _ => none
def prI : List UInt8 → Option S48
  | a :: b :: c :: r => if r = [] then none else (numI 10 r).bind fun n => some ⟨(a.toNat : Int), (b.toNat : Int), if c = 45 then -n else n⟩
  | _ => none
def wdL (x : Int) : List UInt8 := decDigits x.toNat
def prL (p : S48) : List UInt8 := UInt8.ofNat p.f0.toNat :: UInt8.ofNat p.f1.toNat :: (if p.f2 < 0 then 45 else 43) :: decDigits p.f2.natAbs
def faceL (ws : List Int) (sp gp : Int) (l : List S48) : List UInt8 := Lib.join (ws.map wdL) [32] ++ 59 :: (wdL sp ++ 59 :: (wdL gp ++ 59 :: Lib.join (l.map prL) [32]))
abbrev FaceV := List Int × Int × Int × List S48
def specRF (t : List UInt8) : Option FaceV := match cutAt 59 [] t with
  | [a, b, c, d] => (numL b).bind fun s => (numL c).bind fun g => if (cutAt 32 [] a).length = 26 ∧ s ≤ 40 ∧ g ≤ 10 then (allM wdS (cutAt 32 [] a)).bind fun ws => (allM prS (if d = [] then [] else cutAt 32 [] d)).bind fun l => if validB ws s g l = true then some (ws, (s : Int), (g : Int), l) else none else none
  | _ => none
def implRF (t : List UInt8) : Option FaceV := match cutAt 59 [] t with
  | [a, b, c, d] => (allM (numI 40) (cutAt 32 [] a)).bind fun ws => (numI 40 b).bind fun s => (numI 10 c).bind fun g => if ws.length = 26 then (allM prI (fieldsD d)).bind fun l => if (faceTextR ws s g l).data.toList = t then some (ws, s, g, l) else none else none
  | _ => none
theorem ofNat_byte (b : UInt8) : UInt8.ofNat b.toNat = b := by simp
theorem wdS_back (x : List UInt8) (y : Int) (h : wdS x = some y) : x = wdL y := by
  unfold wdS at h
  cases hv : numL x with
  | none => rw [hv] at h; cases h
  | some n =>
    rw [hv, Option.bind_some] at h
    split at h
    · cases h
      unfold wdL
      rw [numL_back hv]
      rfl
    · cases h
theorem prS_back (x : List UInt8) (y : S48) (h : prS x = some y) (h0 : y.f2 ≠ 0) : x = prL y := by
  match x, h with
  | a :: b :: c :: r, h =>
    rw [prS] at h
    split at h
    · rename_i hc
      cases hv : numL r with
      | none => rw [hv] at h; cases h
      | some n =>
        rw [hv, Option.bind_some] at h
        split at h
        · cases h
          have hr := numL_back hv
          unfold prL
          have e1 : ((a.toNat : Int)).toNat = a.toNat := by omega
          have e2 : ((b.toNat : Int)).toNat = b.toNat := by omega
          simp only [e1, e2]
          rw [ofNat_byte, ofNat_byte]
          rcases hc with rfl | rfl
          · simp only [if_neg (show ¬ (43 : UInt8) = 45 by decide)] at h0 ⊢
            rw [if_neg (by omega), hr]
            rfl
          · simp only [if_true] at h0 ⊢
            rw [if_pos (by omega), hr]
            congr 4
            omega
        · cases h
    · cases h
def fitP (p : S48) : Prop := (65 ≤ p.f0 ∧ p.f0 ≤ 90) ∧ (65 ≤ p.f1 ∧ p.f1 ≤ 90) ∧ (-10 ≤ p.f2 ∧ p.f2 ≤ 10) ∧ p.f2 ≠ 0
theorem byte_fit {x : Int} (h0 : 65 ≤ x) (h1 : x ≤ 90) : (UInt8.ofNat x.toNat).toNat = x.toNat := by
  rw [UInt8.toNat_ofNat']
  omega
theorem wdS_of (x : Int) (h0 : 0 ≤ x) (h1 : x ≤ 40) : wdS (wdL x) = some x := by
  unfold wdS wdL
  rw [numL_dec _ (by omega), Option.bind_some, if_pos (by omega)]
  congr 1
  omega
theorem wdI_of (most x : Int) (h0 : 0 ≤ x) (h1 : x ≤ most) (h2 : x ≤ 9999) : numI most (wdL x) = some x := by
  unfold wdL
  rw [numI_dec most x.toNat (by omega) (by omega)]
  congr 1
  omega
theorem pr_eta (p : S48) (h : fitP p) (n : Int) (hn : n = p.f2.natAbs) : (⟨((UInt8.ofNat p.f0.toNat).toNat : Int), ((UInt8.ofNat p.f1.toNat).toNat : Int), if (if p.f2 < 0 then (45 : UInt8) else 43) = 45 then -n else n⟩ : S48) = p := by
  obtain ⟨⟨a0, a1⟩, ⟨b0, b1⟩, ⟨c0, c1⟩, c2⟩ := h
  rw [byte_fit a0 a1, byte_fit b0 b1]
  have e1 : (p.f0.toNat : Int) = p.f0 := by omega
  have e2 : (p.f1.toNat : Int) = p.f1 := by omega
  rw [e1, e2]
  by_cases hg : p.f2 < 0
  · rw [if_pos hg, if_pos rfl, hn]
    have : -((p.f2.natAbs : Nat) : Int) = p.f2 := by omega
    rw [this]
  · rw [if_neg hg, if_neg (by decide), hn]
    have : ((p.f2.natAbs : Nat) : Int) = p.f2 := by omega
    rw [this]
theorem prS_of (p : S48) (h : fitP p) : prS (prL p) = some p := by
  have hc := h.2.2.1
  unfold prL
  rw [prS, if_pos (by split <;> simp), numL_dec _ (by omega), Option.bind_some, if_pos (by omega), pr_eta p h _ rfl]
theorem prI_of (p : S48) (h : fitP p) : prI (prL p) = some p := by
  have hc := h.2.2.1
  unfold prL
  rw [prI, if_neg (dec_ne _), numI_dec 10 _ (by omega) (by omega), Option.bind_some, pr_eta p h _ rfl]
def plainW (w : List UInt8) : Prop := w ≠ [] ∧ ∀ b ∈ w, 33 ≤ b.toNat ∧ b.toNat ≤ 90 ∧ b.toNat ≠ 59
theorem wdL_plain (x : Int) : plainW (wdL x) := ⟨dec_ne _, fun b hb => by have := dec_digit _ b hb; omega⟩
theorem prL_plain (p : S48) (h : fitP p) : plainW (prL p) := by
  obtain ⟨⟨a0, a1⟩, ⟨b0, b1⟩, ⟨c0, c1⟩, c2⟩ := h
  unfold prL
  refine ⟨by simp, fun b hb => ?_⟩
  rcases List.mem_cons.1 hb with rfl | hb
  · rw [byte_fit a0 a1]; omega
  · rcases List.mem_cons.1 hb with rfl | hb
    · rw [byte_fit b0 b1]; omega
    · rcases List.mem_cons.1 hb with rfl | hb
      · split <;> decide
      · have := dec_digit _ b hb; omega
theorem isSp_plain (b : UInt8) (h0 : 33 ≤ b.toNat) (h1 : b.toNat ≤ 90) : isSp b = false := by
  unfold isSp
  have e : ∀ c : UInt8, c.toNat < 33 → (b == c) = false := fun c hc => by
    rw [beq_eq_false_iff_ne]
    rintro rfl
    omega
  rw [e 9 (by decide), e 10 (by decide), e 11 (by decide), e 12 (by decide), e 13 (by decide), e 32 (by decide)]
  rfl
theorem join_none (c : UInt8) (hc : c ≠ 32) : ∀ ws : List (List UInt8), (∀ w ∈ ws, c ∉ w) → c ∉ Lib.join ws [32] := by
  intro ws
  induction ws with
  | nil => intro _; rw [join_nil]; exact List.not_mem_nil
  | cons x r ih =>
    intro h
    cases r with
    | nil => rw [join_one]; exact h x (List.mem_cons_self ..)
    | cons y r =>
      rw [join_cons2, List.mem_append, List.mem_append, List.mem_singleton]
      rintro (h1 | h1 | h1)
      · exact h x (List.mem_cons_self ..) h1
      · exact hc h1
      · exact ih (fun w hw => h w (List.mem_cons_of_mem _ hw)) h1
theorem join_ascii : ∀ ws : List (List UInt8), (∀ w ∈ ws, ∀ b ∈ w, b.toNat < 128) → ∀ b ∈ Lib.join ws [32], b.toNat < 128 := by
  intro ws
  induction ws with
  | nil => intro _ b hb; rw [join_nil] at hb; cases hb
  | cons x r ih =>
    intro h b hb
    cases r with
    | nil => rw [join_one] at hb; exact h x (List.mem_cons_self ..) b hb
    | cons y r =>
      rw [join_cons2, List.mem_append, List.mem_append, List.mem_singleton] at hb
      rcases hb with h1 | rfl | h1
      · exact h x (List.mem_cons_self ..) b h1
      · decide
      · exact ih (fun w hw => h w (List.mem_cons_of_mem _ hw)) b h1
theorem plainD (ws : List (List UInt8)) (h : ∀ w ∈ ws, plainW w) : fieldsD (Lib.join ws [32]) = ws := by
  rw [fieldsD_ascii _ (join_ascii ws (fun w hw b hb => by have := (h w hw).2 b hb; omega))]
  exact fields_join ws (fun w hw => ⟨(h w hw).1, fun b hb => isSp_plain b ((h w hw).2 b hb).1 ((h w hw).2 b hb).2.1⟩)
theorem no32 {w : List UInt8} (h : plainW w) : (32 : UInt8) ∉ w ∧ (59 : UInt8) ∉ w :=
  ⟨fun hm => by have h1 := (h.2 _ hm).1; revert h1; decide, fun hm => (h.2 _ hm).2.2 rfl⟩
/-- A valid face's pairs are letters. -/
theorem valid_fit {ws : List Int} {sp gp : Int} {l : List S48} (h : validB ws sp gp l = true) : ∀ x ∈ l, fitP x := by
  unfold validB faceB pairsB at h
  simp only [Bool.and_eq_true, decide_eq_true_eq, List.all_eq_true, List.mem_range] at h
  obtain ⟨⟨⟨⟨_, hp⟩, _⟩, _⟩, _⟩ := h
  intro x hxm
  obtain ⟨i, hi, rfl⟩ := List.getElem_of_mem hxm
  have h1 := hp i hi
  unfold pairB inB letB at h1
  rw [rd46_get l i hi] at h1
  simp only [Bool.and_eq_true, decide_eq_true_eq, Bool.not_eq_true', decide_eq_false_iff_not] at h1
  obtain ⟨⟨⟨⟨⟨h4, h5⟩, h2⟩, h3⟩, _⟩, _⟩ := h1
  exact ⟨h4, h5, h2, h3⟩
theorem itoa_wd {x : Int} (h : 0 ≤ x) : (itoaB x).data.toList = wdL x := by
  unfold itoaB wdL
  have e : x = (x.toNat : Int) := by omega
  show itoa x = _
  conv => lhs; rw [e]
  rw [Lib.itoa_nonneg]
theorem pr_list (p : S48) (h : fitP p) : (prT p).data.toList = prL p := by
  unfold prT byT prL
  rw [ByteArray.data_append, Array.toList_append, ByteArray.data_append, Array.toList_append]
  by_cases hg : p.f2 < 0
  · rw [if_pos hg, if_pos hg, if_pos hg, itoa_wd (by omega)]
    unfold wdL
    have e : (-p.f2).toNat = p.f2.natAbs := by omega
    rw [e]
    rfl
  · rw [if_neg hg, if_neg hg, if_neg hg, itoa_wd (by omega)]
    unfold wdL
    have e : p.f2.toNat = p.f2.natAbs := by omega
    rw [e]
    rfl
theorem told_list {ws : List Int} (hx : ws.length = 26) {sp gp : Int} {l : List S48} (h : validB ws sp gp l = true) : (faceT ws sp gp l).data.toList = faceL ws sp gp l := by
  obtain ⟨vw, vs, vg, vl, vp⟩ := valid_facts hx h
  have hf := valid_fit h
  have e1 : (ws.map itoaB).map (fun x => x.data.toList) = ws.map wdL := by
    rw [List.map_map]
    apply List.map_congr_left
    intro x hm
    exact itoa_wd (by have := (vw x hm).1; omega)
  have e2 : (l.map prT).map (fun x => x.data.toList) = l.map prL := by
    rw [List.map_map]
    apply List.map_congr_left
    intro x hm
    exact pr_list x (hf x hm)
  unfold faceT midT faceL
  simp only [ByteArray.data_append, Array.toList_append]
  rw [itoa_wd (x := sp) (by omega), itoa_wd (x := gp) (by omega)]
  unfold joinB
  show Lib.join ((ws.map itoaB).map (fun x => x.data.toList)) [32] ++ (([59] ++ wdL sp ++ [59]) ++ wdL gp ++ [59]) ++ Lib.join ((l.map prT).map (fun x => x.data.toList)) [32] = _
  rw [e1, e2]
  simp [List.append_assoc]
theorem cut_face {ws : List Int} {sp gp : Int} {l : List S48} (hf : ∀ x ∈ l, fitP x) : cutAt 59 [] (faceL ws sp gp l) = [Lib.join (ws.map wdL) [32], wdL sp, wdL gp, Lib.join (l.map prL) [32]] := by
  unfold faceL
  rw [cutAt_hit 59 _ _ [] (join_none 59 (by decide) _ (fun w hw => by obtain ⟨x, _, rfl⟩ := List.mem_map.1 hw; exact (no32 (wdL_plain x)).2)), cutAt_hit 59 _ _ [] (no32 (wdL_plain sp)).2, cutAt_hit 59 _ _ [] (no32 (wdL_plain gp)).2,
    cutAt_none 59 _ [] (join_none 59 (by decide) _ (fun w hw => by obtain ⟨x, hx, rfl⟩ := List.mem_map.1 hw; exact (no32 (prL_plain x (hf x hx))).2))]
  rfl
theorem cut_wide {ws : List Int} (hx : ws.length = 26) : cutAt 32 [] (Lib.join (ws.map wdL) [32]) = ws.map wdL :=
  cutAt_join 32 _ (by intro h; have := congrArg List.length h; rw [List.length_map, hx] at this; cases this) (fun w hw => by obtain ⟨x, _, rfl⟩ := List.mem_map.1 hw; exact (no32 (wdL_plain x)).1)
theorem cut_pairs {l : List S48} (hf : ∀ x ∈ l, fitP x) : (if Lib.join (l.map prL) [32] = [] then [] else cutAt 32 [] (Lib.join (l.map prL) [32])) = l.map prL := by
  by_cases hm0 : l = []
  · subst hm0; rfl
  · have e3 := cutAt_join 32 (l.map prL) (by simpa using hm0) (fun w hw => by obtain ⟨x, hx, rfl⟩ := List.mem_map.1 hw; exact (no32 (prL_plain x (hf x hx))).1)
    rw [if_neg, e3]
    intro e
    rw [e] at e3
    have hx : ([] : List UInt8) ∈ l.map prL := by rw [← e3]; exact List.mem_singleton.2 rfl
    obtain ⟨x, hx2, e4⟩ := List.mem_map.1 hx
    exact (prL_plain x (hf x hx2)).1 e4
theorem specRF_told {ws : List Int} (hx : ws.length = 26) {sp gp : Int} {l : List S48} (h : validB ws sp gp l = true) : specRF (faceL ws sp gp l) = some (ws, sp, gp, l) := by
  obtain ⟨vw, vs, vg, vl, vp⟩ := valid_facts hx h
  have hf := valid_fit h
  obtain ⟨s, rfl⟩ := Int.eq_ofNat_of_zero_le (show 0 ≤ sp by omega)
  obtain ⟨g, rfl⟩ := Int.eq_ofNat_of_zero_le (show 0 ≤ gp by omega)
  unfold specRF
  rw [cut_face hf]
  simp only
  rw [show wdL (s : Int) = decDigits s from rfl, show wdL (g : Int) = decDigits g from rfl, numL_dec s (by omega), Option.bind_some, numL_dec g (by omega), Option.bind_some, cut_wide hx, if_pos ⟨by rw [List.length_map]; exact hx, by omega, by omega⟩,
    allM_of wdS wdL ws (fun x hm => wdS_of x (by have := (vw x hm).1; omega) (vw x hm).2), Option.bind_some, cut_pairs hf, allM_of prS prL l (fun x hm => prS_of x (hf x hm)), Option.bind_some, if_pos h]
theorem implRF_told {ws : List Int} (hx : ws.length = 26) {sp gp : Int} {l : List S48} (h : validB ws sp gp l = true) : implRF (faceL ws sp gp l) = some (ws, sp, gp, l) := by
  obtain ⟨vw, vs, vg, vl, vp⟩ := valid_facts hx h
  have hf := valid_fit h
  unfold implRF
  rw [cut_face hf]
  simp only
  rw [cut_wide hx, allM_of (numI 40) wdL ws (fun x hm => wdI_of 40 x (by have := (vw x hm).1; omega) (vw x hm).2 (by have := (vw x hm).2; omega)), Option.bind_some, wdI_of 40 sp (by omega) (by omega) (by omega), Option.bind_some, wdI_of 10 gp (by omega) (by omega) (by omega), Option.bind_some, if_pos hx,
    plainD _ (fun w hw => by obtain ⟨x, hx, rfl⟩ := List.mem_map.1 hw; exact prL_plain x (hf x hx)), allM_of prI prL l (fun x hm => prI_of x (hf x hm)), Option.bind_some]
  unfold faceTextR
  rw [if_pos h, told_list hx h, if_pos rfl]
theorem specRF_back {t : List UInt8} {ws : List Int} {sp gp : Int} {l : List S48} (h : specRF t = some (ws, sp, gp, l)) : ws.length = 26 ∧ validB ws sp gp l = true ∧ t = faceL ws sp gp l := by
  unfold specRF at h
  split at h
  · rename_i a b c d hc
    cases hs : numL b with
    | none => rw [hs] at h; cases h
    | some s =>
    rw [hs, Option.bind_some] at h
    cases hg : numL c with
    | none => rw [hg] at h; cases h
    | some g =>
    rw [hg, Option.bind_some] at h
    split at h
    · rename_i hl
      cases hw : allM wdS (cutAt 32 [] a) with
      | none => rw [hw] at h; cases h
      | some ws' =>
      rw [hw, Option.bind_some] at h
      cases hp : allM prS (if d = [] then [] else cutAt 32 [] d) with
      | none => rw [hp] at h; cases h
      | some l' =>
      rw [hp, Option.bind_some] at h
      split at h
      · rename_i hok
        cases h
        have h26 : ws.length = 26 := (allM_len wdS _ _ hw).trans hl.1
        have hf := valid_fit hok
        refine ⟨h26, hok, ?_⟩
        have e1 := allM_back wdS wdL wdS_back _ _ hw
        have e2 := allM_backP prS prL (fun y => y.f2 ≠ 0) prS_back _ _ hp (fun y hy => (hf y hy).2.2.2)
        have e3 := join_cutAt 59 t []
        rw [hc] at e3
        have e4 := join_cutAt 32 a []
        rw [e1] at e4
        have e5 : Lib.join (l.map prL) [32] = d := by
          rw [← e2]
          split
          · rename_i hB; rw [hB, join_nil]
          · exact join_cutAt 32 d []
        unfold faceL
        rw [e4, e5, show wdL (s : Int) = decDigits s from rfl, show wdL (g : Int) = decDigits g from rfl, ← numL_back hs, ← numL_back hg]
        rw [join_cons2, join_cons2, join_cons2, join_one] at e3
        simpa using e3.symm
      · cases h
    · cases h
  · cases h
theorem implRF_back {t : List UInt8} {ws : List Int} {sp gp : Int} {l : List S48} (h : implRF t = some (ws, sp, gp, l)) : ws.length = 26 ∧ validB ws sp gp l = true ∧ t = faceL ws sp gp l := by
  unfold implRF at h
  split at h
  · rename_i a b c d hc
    cases hw : allM (numI 40) (cutAt 32 [] a) with
    | none => rw [hw] at h; cases h
    | some ws' =>
    rw [hw, Option.bind_some] at h
    cases hs : numI 40 b with
    | none => rw [hs] at h; cases h
    | some s =>
    rw [hs, Option.bind_some] at h
    cases hg : numI 10 c with
    | none => rw [hg] at h; cases h
    | some g =>
    rw [hg, Option.bind_some] at h
    split at h
    · rename_i h26
      cases hp : allM prI (fieldsD d) with
      | none => rw [hp] at h; cases h
      | some l' =>
      rw [hp, Option.bind_some] at h
      split at h
      · rename_i ht
        cases h
        unfold faceTextR at ht
        by_cases hok : validB ws sp gp l = true
        · rw [if_pos hok, told_list h26 hok] at ht
          exact ⟨h26, hok, ht.symm⟩
        · rw [if_neg hok] at ht
          exfalso
          have e : t = [] := ht.symm
          rw [e] at hc
          cases hc
      · cases h
    · cases h
  · cases h
theorem readFace_same (t : List UInt8) : specRF t = implRF t := by
  cases h1 : specRF t with
  | some p =>
    obtain ⟨ws, sp, gp, l⟩ := p
    obtain ⟨hx, hok, rfl⟩ := specRF_back h1
    exact (implRF_told hx hok).symm
  | none =>
    cases h2 : implRF t with
    | none => rfl
    | some p =>
      obtain ⟨ws, sp, gp, l⟩ := p
      obtain ⟨hx, hok, rfl⟩ := implRF_back h2
      rw [specRF_told hx hok] at h1
      cases h1
end Go.Proofs.YtkldhleiipfaaaaDoor.Q
