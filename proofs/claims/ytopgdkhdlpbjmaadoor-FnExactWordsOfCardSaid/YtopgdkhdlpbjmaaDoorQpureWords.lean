/- The law WordsOf holds. -/
import Derived.Test.YtopgdkhdlpbjmaaDoorQpureFields
import Derived.Test.YtopgdkhdlpbjmaaDoorQlawsFnExactWordsOf
import Derived.Test.YtopgdkhdlpbjmaaDoorQpureLaw
import Derived.Test.YtopgdkhdlpbjmaaDoorQpureMarkS
namespace Go.Proofs.YtopgdkhdlpbjmaaDoor.Q
open Go.RowKit Go.Proofs.YtopgdkhdlpbjmaaDoorW.PrintWords Go.Proofs.YtopgdkhdlpbjmaaDoorW.PrintLast Go.Proofs.YtopgdkhdlpbjmaaDoorW.PrintMore
open Go.Proofs.YtopgdkhdlpbjmaaDoor.Pure
set_option linter.unusedVariables false

def wordsM (a : ByteArray) : List ByteArray × Int := if textB a = true then (wordsF a, 0) else ([], 1)
theorem wordsM_len (a : ByteArray) : (wordsM a).1.length ≤ a.size + 1 := by
  unfold wordsM
  split
  · have := fields_len a; simpa [wordsF] using this
  · exact Nat.zero_le _
theorem impl_WordsOf.val (a : ByteArray) (k : Nat) (hk : 61 ≤ k) : impl_WordsOf.f k a = some (wordsM a) := by
  have ht : impl_ValidText.f k a = some (textB a) := by
    by_cases h : a.size ≤ 60
    · exact at_rounds (impl_ValidText.mono a) (by omega) (impl_ValidText.val a (by omega))
    · unfold impl_ValidText.f textB
      rw [if_neg (by omega)]
      simp [show ¬ ((a.size : Int) ≤ 60) by omega]
  unfold impl_WordsOf.f wordsM
  rw [ht]
  simp only [Option.bind_some]
  cases h : textB a with
  | false => simp
  | true => simp [strings_Fields.val a h]
theorem spec_WordsOf.val (a : ByteArray) (ha : a.size ≤ 9223372036854775807) (k : Nat) (hk : a.size + 62 ≤ k) : spec_WordsOf.f k a = some (wordsM a) := by
  unfold spec_WordsOf.f wordsM
  rw [at_rounds (spec_l01Text.mono a) (by omega) (spec_l01Text.val a ha)]
  simp only [Option.bind_some]
  cases h : textB a with
  | false => simp
  | true => simp [spec_l01Words.val a h k (by omega)]

theorem laws_FnExactWordsOf.holds (a : ByteArray) (W : World) (hG : GlobF W) (ha : a.size ≤ 9223372036854775807) :
    Calls Tryd.prog 4 #[.string a] W fun e w' => e = .returned (.bool true) ∧ Below W.heap.size W w' := by
  refine laws_FnExactWordsOf.calls (2 * a.size + 200) a true W hG ?_
  unfold laws_FnExactWordsOf.f
  by_cases h : (a.size : Int) > 1048576
  · rw [if_pos h]
  rw [if_neg h]
  have hlen := wordsM_len a
  have e3 : ∀ k, a.size + 1 < k → laws_eqStringS.f k (wordsM a).1 (wordsM a).1 = some true := fun k hk => by
    rw [at_rounds (laws_eqStringS.mono _ _) (by omega) (laws_eqStringS.val (wordsM a).1 (wordsM a).1 (by omega))]; simp
  have e4 : ∀ k, 61 ≤ k → impl_WordsOf.f k a = some (wordsM a) := fun k hk => impl_WordsOf.val a k hk
  have e5 : ∀ k, a.size + 62 ≤ k → spec_WordsOf.f k a = some (wordsM a) := fun k hk => spec_WordsOf.val a ha k hk
  generalize hq : wordsM a = q at *
  have e6 : ∀ k, a.size + 23 < k → laws_markStringS.f k q.1 1 = some (((q.1.length + 1 : Nat) : Int), marksTo q.1.length) := fun k hk => laws_markStringS.val q.1 (by omega) k (by omega)
  have e7 : ∀ k, a.size + 23 < k → laws_heldStringS.f k (marksTo q.1.length) 1 = some ((q.1.length + 1 : Nat) : Int) := fun k hk => laws_heldStringS.val q.1.length (by omega) k (by omega)
  rw [e5 _ (by omega)]
  simp only [Option.bind_some]
  rw [e4 _ (by omega)]
  simp only [Option.bind_some]
  rw [e3 _ (by omega)]
  simp only [Option.bind_some, if_true, bne_self_eq_false]
  show laws_FnExactWordsOf.j0 (2 * a.size + 199 + 1) _ _ _ _ _ = _
  rw [laws_FnExactWordsOf.j0]
  simp only [Bool.false_eq_true, if_false]
  rw [e6 _ (by omega)]
  simp only [Option.bind_some]
  rw [e7 _ (by omega)]
  simp only [Option.bind_some, if_true]
  rw [if_neg (by omega), e4 _ (by omega)]
  simp only [Option.bind_some]
  rw [e3 _ (by omega)]
  simp only [Option.bind_some, if_true, bne_self_eq_false]
  show laws_FnExactWordsOf.j1 (2 * a.size + 198 + 1) _ _ _ = _
  rw [laws_FnExactWordsOf.j1]
  simp only [Bool.false_eq_true, if_false]
  rw [e7 _ (by omega)]
  simp only [Option.bind_some, if_true]
  rw [if_neg (by omega)]
end Go.Proofs.YtopgdkhdlpbjmaaDoor.Q
