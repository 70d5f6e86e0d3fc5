/- spec.CountLetters answers as the program does; the law CountLetters holds. -/
import Derived.Test.YtopgdkhdlpbjmaaDoorQhandCountLetters
import Derived.Test.YtopgdkhdlpbjmaaDoorQspecCountLetters
import Derived.Test.YtopgdkhdlpbjmaaDoorQlawsFnExactCountLetters
import Derived.Test.YtopgdkhdlpbjmaaDoorQpureLaw
import Derived.Test.YtopgdkhdlpbjmaaDoorQpureMark
namespace Go.Proofs.YtopgdkhdlpbjmaaDoor.Q
open Go.RowKit Go.Proofs.YtopgdkhdlpbjmaaDoorW.PrintWords Go.Proofs.YtopgdkhdlpbjmaaDoorW.PrintLast Go.Proofs.YtopgdkhdlpbjmaaDoorW.PrintMore
open Go.Proofs.YtopgdkhdlpbjmaaDoor.Pure
set_option linter.unusedVariables false

def skipL (c : List Int) (b : Int) : List Int := if b = 32 then c else addL c b
theorem skip_filter : ∀ (xs c : List Int), xs.foldl skipL c = (xs.filter fun x => x != 32).foldl addL c := by
  intro xs
  induction xs with
  | nil => intro c; rfl
  | cons x xs ih =>
    intro c
    rw [List.foldl_cons, ih]
    by_cases h : x = 32
    · rw [List.filter_cons_of_neg (by simp [h]), skipL, if_pos h]
    · rw [List.filter_cons_of_pos (by simpa using h), List.foldl_cons, skipL, if_neg h]
theorem skip_len : ∀ (xs c : List Int), (xs.foldl skipL c).length = c.length := by
  intro xs c
  rw [skip_filter, foldl_addL_len]
def skipTo (a : ByteArray) (i : Nat) : List Int := ((bytesOf a).take i).foldl skipL (List.replicate 26 0)
theorem skipTo_step (a : ByteArray) (i : Nat) (h : i < a.size) : skipTo a (i + 1) = skipL (skipTo a i) (bt a i) := by
  unfold skipTo
  rw [List.take_succ_eq_append_getElem (by rw [bytesOf_length]; exact h), List.foldl_append, bytesOf_at a i h]
  rfl
theorem skipTo_len (a : ByteArray) (i : Nat) : (skipTo a i).length = 26 := by
  unfold skipTo
  rw [skip_len, List.length_replicate]
theorem skipTo_all (a : ByteArray) : skipTo a a.size = cntL (bytesOf (strip a)) (strip a).size := by
  unfold skipTo cntL
  rw [List.take_of_length_le (by rw [bytesOf_length]; exact Nat.le_refl _), List.take_of_length_le (by rw [bytesOf_length]; exact Nat.le_refl _), skip_filter, bytesOf_strip]

theorem spec_CountLetters.val (a : ByteArray) (ha : a.size ≤ 9223372036854775807) : spec_CountLetters.f (a.size + 1) a = some (countM a) := by
  unfold spec_CountLetters.f countM
  rw [spec_l01Text.val a ha]
  simp only [Option.bind_some]
  cases ht : textB a with
  | false => simp
  | true =>
    simp only [if_true]
    rw [if_pos (by omega), ← skipTo_all]
    refine scan_inv (n := a.size) (M := 0) (l := fun k i x => spec_CountLetters.l0 k a x i) (at_ := skipTo a) (fun k i hi _ => ?_) (fun k _ => ?_) _ (by omega)
    · simp only [spec_CountLetters.l0]
      rw [if_pos (by omega), if_pos (by omega), wrap_succ hi ha, skipTo_step a i hi, skipTo_len]
      by_cases h : bt a i = 32
      · rw [if_pos h, skipL, if_pos h]
      · have hl : isL (bt a i) = true := by
          rcases text_bytes ht (bt a i) (by rw [← bytesOf_at a i hi]; exact List.getElem_mem _) with e | e
          · exact absurd e h
          · exact e
        unfold isL at hl
        simp only [Bool.and_eq_true, decide_eq_true_iff] at hl
        have e : (bt a i - 65) % 256 = bt a i - 65 := by omega
        rw [if_neg h, e, if_pos (by omega), if_pos (by omega), skipL, if_neg h]
        rfl
    · simp [spec_CountLetters.l0]

theorem countM_len (a : ByteArray) : (countM a).1.length ≤ 26 := by
  unfold countM
  split
  · rw [cntL_len]; exact Nat.le_refl _
  · exact Nat.zero_le _

theorem laws_FnExactCountLetters.holds (a : ByteArray) (W : World) (hG : Glob W) (ha : a.size ≤ 9223372036854775807) :
    Calls Tryd.prog 6 #[.string a] W fun e w' => e = .returned (.bool true) ∧ Below W.heap.size W w' := by
  refine laws_FnExactCountLetters.calls (a.size + 100) a true W hG ?_
  unfold laws_FnExactCountLetters.f
  by_cases h : (a.size : Int) > 1048576
  · rw [if_pos h]
  rw [if_neg h]
  have hlen := countM_len a
  have e3 : ∀ k, 26 < k → laws_eqInt64S.f k (countM a).1 (countM a).1 = some true := fun k hk => by
    rw [at_rounds (laws_eqInt64S.mono _ _) (by omega) (laws_eqInt64S.val (countM a).1 (countM a).1 (by omega))]; simp
  have e4 : impl_CountLetters.f a = some (countM a) := rfl
  have e5 : ∀ k, a.size < k → spec_CountLetters.f k a = some (countM a) := fun k hk => at_rounds (spec_CountLetters.mono a) (by omega) (spec_CountLetters.val a ha)
  generalize hq : countM a = q at *
  have e6 : ∀ k, 26 < k → laws_markInt64S.f k q.1 1 = some (((q.1.length + 1 : Nat) : Int), oneTo q.1.length) := fun k hk => at_rounds (laws_markInt64S.mono _ _) (by omega) (laws_markInt64S.val q.1 (by omega))
  have e7 : ∀ k, 26 < k → laws_heldInt64S.f k (oneTo q.1.length) 1 = some ((q.1.length + 1 : Nat) : Int) := fun k hk => at_rounds (laws_heldInt64S.mono _ _) (by omega) (laws_heldInt64S.val q.1.length (by omega))
  rw [e5 _ (by omega)]
  simp only [Option.bind_some]
  rw [e4]
  simp only [Option.bind_some]
  rw [e3 _ (by omega)]
  simp only [Option.bind_some, if_true, bne_self_eq_false]
  show laws_FnExactCountLetters.j0 (a.size + 99 + 1) _ _ _ _ _ = _
  rw [laws_FnExactCountLetters.j0]
  simp only [Bool.false_eq_true, if_false]
  rw [e6 _ (by omega)]
  simp only [Option.bind_some]
  rw [e7 _ (by omega)]
  simp only [Option.bind_some, if_true]
  rw [if_neg (by omega), e4]
  simp only [Option.bind_some]
  rw [e3 _ (by omega)]
  simp only [Option.bind_some, if_true, bne_self_eq_false]
  show laws_FnExactCountLetters.j1 (a.size + 98 + 1) _ _ _ = _
  rw [laws_FnExactCountLetters.j1]
  simp only [Bool.false_eq_true, if_false]
  rw [e7 _ (by omega)]
  simp only [Option.bind_some, if_true]
  rw [if_neg (by omega)]
end Go.Proofs.YtopgdkhdlpbjmaaDoor.Q
