/- impl.ReadFace, by hand: the callees in the walk's words, the plain steps. -/
import Derived.Test.YtkldhleiipfaaaaDoorQhandRFBase
import Derived.Test.YtkldhleiipfaaaaDoorQpureRF4
import Derived.Test.YtkldhleiipfaaaaDoorQhandFImpl
namespace Go.Proofs.YtkldhleiipfaaaaDoor.Q
open Go.RowKit Go.Proofs.YtkldhleiipfaaaaDoorW.PrintWords Go.Proofs.YtkldhleiipfaaaaDoorW.PrintLast Go.Proofs.YtkldhleiipfaaaaDoorW.PrintMore
open Go.Proofs.YtkldhleiipfaaaaDoor.Pure
set_option linter.unusedVariables false
set_option linter.unusedSimpArgs false

theorem splitI (t : ByteArray) (ht : t.size ≤ 1048576) (w : World) (hG : GlobFP w) : Calls Tryd.prog 28 #[.string t, .string ⟨#[59]⟩] w fun e w' => ∃ v0_ : Value, e = .returned v0_ ∧ Kd.R Kd.string 9 w' w.heap.size (fun _ => True) v0_ ((cutAt 59 [] t.data.toList).map mkB) ∧ Below w.heap.size w w' :=
  strings_Split.calls t ⟨#[59]⟩ _ w hG.toF.glob (strings_Split.val t 59 (by omega))
theorem numsI (l : List UInt8) (hl : l.length ≤ 1048576) (w : World) (hG : GlobFP w) (r : List Int) (ok : Bool) (h : numsR (cutAt 32 [] l) 26 40 = (r, ok)) : Calls Tryd.prog 29 #[.string (mkB l), .int .i64 26, .int .i64 40] w fun e w' => ∃ v0_ : Value, e = .returned (.tuple #[v0_, .bool ok]) ∧ Kd.R (Kd.int .i64) 2 w' w.heap.size (fun _ => True) v0_ r ∧ Below w.heap.size w w' :=
  impl_numbersOf.calls (l.length + 3) (mkB l) 26 40 r ok w hG ((impl_numbersOf.val (mkB l) (by rw [mk_size]; exact hl) 26 40 _ (by rw [mk_size]; exact Nat.le_refl _)).trans (by rw [mk_data, h]))
def numQ (most : Int) (l : List UInt8) : Int × Bool := match numI most l with | some n => (n, true) | none => (0, false)
theorem numqC (l : List UInt8) (hl : l.length ≤ 1048576) (most : Int) (w : World) (hG : GlobFP w) (n : Int) (ok : Bool) (h : numQ most l = (n, ok)) : Calls Tryd.prog 30 #[.string (mkB l), .int .i64 most] w fun e w' => e = .returned (.tuple #[.int .i64 n, .bool ok]) ∧ Below w.heap.size w w' :=
  impl_number.calls (mkB l) most n ok w hG (by unfold impl_number.f; rw [if_pos (by rw [mk_size]; omega), mk_data, numV_is]; exact congrArg some h)
theorem fieldsC (l : List UInt8) (hl : l.length ≤ 1048576) (w : World) (hG : GlobFP w) : Calls Tryd.prog 31 #[.string (mkB l)] w fun e w' => ∃ v0_ : Value, e = .returned v0_ ∧ Kd.R Kd.string 9 w' w.heap.size (fun _ => True) v0_ ((Lib.fieldsD l).map mkB) ∧ Below w.heap.size w w' :=
  strings_Fields.calls (mkB l) _ w hG.toF (by unfold strings_Fields.f; rw [if_pos (by rw [mk_size]; omega)]; rfl)
theorem readI_none {t : ByteArray} (h : implRF t.data.toList = none) : readR t = (noFaceV, 5) := readR_none ((readFace_same _).trans h)
theorem implRF_len {t : List UInt8} (h : (cutAt 59 [] t).length ≠ 4) : implRF t = none := by
  unfold implRF
  split
  · rename_i hc
    rw [hc] at h
    exact absurd rfl h
  · rfl
def tailI (T : List UInt8) (n1 n2 : Int) (d : List UInt8) (ws : List Int) : Option FaceV := (allM prI (Lib.fieldsD d)).bind fun l => if (faceTextR ws n1 n2 l).data.toList = T then some (ws, n1, n2, l) else none
theorem implRF_four {t a b c d : List UInt8} (h : cutAt 59 [] t = [a, b, c, d]) : implRF t = ((allM (numI 40) (cutAt 32 [] a)).bind fun ws => (numI 40 b).bind fun s => (numI 10 c).bind fun g => if ws.length = 26 then tailI t s g d ws else none) := by
  unfold implRF
  rw [h]
  rfl
theorem goodI_false {T a b c d : List UInt8} (h : implRF T = ((allM (numI 40) (cutAt 32 [] a)).bind fun ws => (numI 40 b).bind fun s => (numI 10 c).bind fun g => if ws.length = 26 then tailI T s g d ws else none))
    (hg : ((numsR (cutAt 32 [] a) 26 40).2 && (numQ 40 b).2 && (numQ 10 c).2) = false) : implRF T = none := by
  rw [h]
  unfold numsR numQ at hg
  cases h1 : allM (numI 40) (cutAt 32 [] a) with
  | none => rfl
  | some ws =>
    cases h2 : numI 40 b with
    | none => rfl
    | some s =>
      cases h3 : numI 10 c with
      | none => rfl
      | some g =>
        rw [h1, h2, h3] at hg
        simp only [Option.bind_some]
        rw [if_neg]
        intro h26
        simp [h26] at hg
theorem goodI_true {T a b c d : List UInt8} {ws : List Int} {n1 n2 : Int} (h : implRF T = ((allM (numI 40) (cutAt 32 [] a)).bind fun ws => (numI 40 b).bind fun s => (numI 10 c).bind fun g => if ws.length = 26 then tailI T s g d ws else none))
    (hw : numsR (cutAt 32 [] a) 26 40 = (ws, true)) (hb : numQ 40 b = (n1, true)) (hc : numQ 10 c = (n2, true)) : implRF T = tailI T n1 n2 d ws ∧ ws.length = 26 ∧ (∀ x ∈ ws, 0 ≤ x ∧ x ≤ 40) ∧ (0 ≤ n1 ∧ n1 ≤ 40) ∧ 0 ≤ n2 ∧ n2 ≤ 10 := by
  rw [h]
  unfold numsR at hw
  unfold numQ at hb hc
  cases h1 : allM (numI 40) (cutAt 32 [] a) with
  | none => rw [h1] at hw; simp at hw
  | some vs =>
    cases h2 : numI 40 b with
    | none => rw [h2] at hb; simp at hb
    | some s =>
      cases h3 : numI 10 c with
      | none => rw [h3] at hc; simp at hc
      | some g =>
        rw [h1] at hw
        rw [h2] at hb
        rw [h3] at hc
        simp only [Prod.mk.injEq, and_true] at hb hc
        simp only [Prod.mk.injEq] at hw
        obtain ⟨rfl, hw2⟩ := hw
        subst hb
        subst hc
        have h26 : vs.length = 26 := by have := eq_of_beq hw2; omega
        simp only [Option.bind_some]
        rw [if_pos h26]
        exact ⟨rfl, h26, fun x hx => by obtain ⟨y, _, hy⟩ := allM_mem _ _ _ h1 x hx; exact numI_range hy, numI_range h2, numI_range h3⟩
theorem prI_short {x : List UInt8} (h : x.length < 4) : prI x = none := by
  match x, h with
  | [], _ => rfl
  | [_], _ => rfl
  | [_, _], _ => rfl
  | [_, _, _], _ => rfl
theorem prI_long {x : List UInt8} (h : 4 ≤ x.length) {n : Int} {ok : Bool} (hn : numQ 10 (x.drop 3) = (n, ok)) : prI x = (if ok = true then some ⟨((x[0]'(by omega)).toNat : Int), ((x[1]'(by omega)).toNat : Int), if (x[2]'(by omega)) = 45 then -n else n⟩ else none) ∧ 0 ≤ n ∧ n ≤ 10 := by
  match x, h with
  | a :: b :: c :: r :: s, _ =>
    unfold numQ at hn
    simp only [List.drop_succ_cons, List.drop_zero] at hn
    show (if (r :: s : List UInt8) = [] then none else (numI 10 (r :: s)).bind fun n => some (⟨(a.toNat : Int), (b.toNat : Int), if c = 45 then -n else n⟩ : S48)) = (if ok = true then some (⟨(a.toNat : Int), (b.toNat : Int), if c = 45 then -n else n⟩ : S48) else none) ∧ 0 ≤ n ∧ n ≤ 10
    rw [if_neg (by simp)]
    cases h1 : numI 10 (r :: s) with
    | none =>
      rw [h1] at hn
      cases hn
      exact ⟨rfl, by decide, by decide⟩
    | some m =>
      rw [h1] at hn
      cases hn
      exact ⟨rfl, numI_range h1⟩
theorem tailI_bad {T : List UInt8} {n1 n2 : Int} {d : List UInt8} {ws : List Int} (h : allM prI (Lib.fieldsD d) = none) : tailI T n1 n2 d ws = none := by unfold tailI; rw [h]; rfl
theorem tailI_some {T : List UInt8} {n1 n2 : Int} {d : List UInt8} {ws : List Int} {l : List S48} (h : allM prI (Lib.fieldsD d) = some l) : tailI T n1 n2 d ws = if (faceTextR ws n1 n2 l).data.toList = T then some (ws, n1, n2, l) else none := by unfold tailI; rw [h]; rfl
theorem readI_some {t : ByteArray} {f : FaceV} (h : implRF t.data.toList = some f) : readR t = (f, 0) := readR_some ((readFace_same _).trans h)
theorem fitI_pairs {x : List (List UInt8)} {l : List S48} (h : allM prI x = some l) : ∀ p ∈ l, -10 ≤ p.f2 ∧ p.f2 ≤ 10 := fun p hp => by
  obtain ⟨y, _, hy⟩ := allM_mem _ _ _ h p hp
  by_cases h4 : y.length < 4
  · rw [prI_short h4] at hy; cases hy
  · obtain ⟨q, hq⟩ : ∃ q, numQ 10 (y.drop 3) = q := ⟨_, rfl⟩
    obtain ⟨n, ok⟩ := q
    obtain ⟨h1, h2, h3⟩ := prI_long (by omega) hq
    rw [hy] at h1
    cases ok with
    | false => cases h1
    | true =>
      cases h1
      dsimp only
      split <;> omega
theorem FV_take {ws : List Int} (hx : ws.length = 26) (k : Nat) (hk : k < 26) (sp gp : Int) (v : Value) : (FV (ws.take k ++ Z26.drop k) sp gp v).setIfInBounds k (.int .i8 ws[k]) = FV (ws.take (k + 1) ++ Z26.drop (k + 1)) sp gp v := by
  rw [FV_setw _ k hk (by rw [List.length_take]; omega), List.take_add_one, List.getElem?_eq_getElem (by omega), Option.toList_some]
theorem FV_all {ws : List Int} (hx : ws.length = 26) (k : Nat) (hk : 26 ≤ k) : ws.take k ++ Z26.drop k = ws := by
  rw [List.take_of_length_le (by omega), List.drop_eq_nil_of_le (by rw [Z26_len]; omega), List.append_nil]
end Go.Proofs.YtkldhleiipfaaaaDoor.Q
