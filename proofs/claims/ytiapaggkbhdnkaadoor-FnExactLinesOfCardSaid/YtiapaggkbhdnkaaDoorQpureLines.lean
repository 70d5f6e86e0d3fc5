/- The lines of a text with breaks: program and reference alike; the law LinesOf holds. -/
import Derived.Test.YtiapaggkbhdnkaaDoorQpureJoined
import Derived.Test.YtiapaggkbhdnkaaDoorQpureWord
import Derived.Test.YtiapaggkbhdnkaaDoorQpureLaw
import Derived.Test.YtiapaggkbhdnkaaDoorQpureMarkS
import Derived.Test.YtiapaggkbhdnkaaDoorQlawsFnExactLinesOf
namespace Go.Proofs.YtiapaggkbhdnkaaDoor.Q
open Go.RowKit Go.Proofs.YtiapaggkbhdnkaaDoorW.PrintWords Go.Proofs.YtiapaggkbhdnkaaDoorW.PrintLast Go.Proofs.YtiapaggkbhdnkaaDoorW.PrintMore
open Go.Proofs.YtiapaggkbhdnkaaDoor.Pure
set_option linter.unusedVariables false

def stepB (n : Int) (l : List Int) (i : Nat) : Bool := decide (1 ≤ rd l (i : Nat)) && decide (rd l (i : Nat) ≤ n - 1) && (decide (i = 0) || decide (rd l ((i - 1 : Nat) : Int) < rd l (i : Nat)))
/-- Breaks of n words: in 1..n-1, each greater than the one ahead of it. -/
def toldB (n : Int) (l : List Int) : Bool := (List.range l.length).all (stepB n l)

theorem spec_l02Told.val (n : Int) (hn0 : 0 ≤ n) (hn : n ≤ 1048576) (l : List Int) (hl : l.length ≤ 1048576) (k : Nat) (hk : l.length < k) : spec_l02Told.f k n l = some (toldB n l) := by
  unfold spec_l02Told.f toldB
  have := scan_all (n := l.length) (l := fun k i => spec_l02Told.l0 k n l i) (p := stepB n l) (b := true) (fun k i hi => ?_) (fun k => by simp [spec_l02Told.l0]) k hk
  · rw [Bool.and_true] at this
    exact this
  · have hw : i = 0 ∨ wrap64 ((i : Int) - 1) = ((i - 1 : Nat) : Int) := by
      by_cases h : i = 0
      · exact Or.inl h
      · exact Or.inr (by rw [wrap_id (by omega) (by omega)]; omega)
    simp only [spec_l02Told.l0, spec_l00In.f]
    rw [if_pos (by omega), if_pos (by omega), wrap_succ hi (by omega), wrap_id (n := n - 1) (by omega) (by omega)]
    unfold stepB
    generalize rd l (i : Nat) = x
    by_cases h1 : x ≥ 1
    · rw [if_pos h1, Option.bind_some]
      by_cases h2 : x ≤ n - 1
      · rcases hw with rfl | hw
        · simp [h1, h2]
        · by_cases h0 : i = 0
          · subst h0
            simp [h1, h2]
          · rw [hw, if_pos (by simp [h2]), if_pos (show (i : Int) > 0 by omega), if_pos (by omega), if_pos (by omega)]
            generalize rd l ((i - 1 : Nat) : Int) = y
            by_cases h3 : x ≤ y
            · have : ¬ y < x := by omega
              simp [h1, h2, h3, this, h0]
            · have : y < x := by omega
              simp [h1, h2, h3, this, h0]
      · simp [h1, h2]
    · rw [if_neg h1, Option.bind_some]
      simp [h1]
theorem impl_areBreaks.val (n : Int) (hn0 : 0 ≤ n) (hn : n ≤ 1048576) (l : List Int) (hl : l.length ≤ 1048576) (k : Nat) (hk : l.length < k) : impl_areBreaks.f k n l = some (toldB n l) := by
  unfold impl_areBreaks.f toldB
  have := scan_all (n := l.length) (l := fun k i => impl_areBreaks.l0 k n l l (l.length : Int) i) (p := stepB n l) (b := true) (fun k i hi => ?_) (fun k => by simp [impl_areBreaks.l0]) k hk
  · rw [Bool.and_true] at this
    exact this
  · have hw : i = 0 ∨ wrap64 ((i : Int) - 1) = ((i - 1 : Nat) : Int) := by
      by_cases h : i = 0
      · exact Or.inl h
      · exact Or.inr (by rw [wrap_id (by omega) (by omega)]; omega)
    simp only [impl_areBreaks.l0, impl_within.f]
    rw [if_pos (by omega), if_pos (by omega), if_pos (by omega), wrap_succ hi (by omega), wrap_id (n := n - 1) (by omega) (by omega)]
    unfold stepB
    generalize rd l (i : Nat) = x
    by_cases h1 : 1 ≤ x
    · rw [if_pos h1, Option.bind_some]
      by_cases h2 : x ≤ n - 1
      · rcases hw with rfl | hw
        · simp [h1, h2]
        · by_cases h0 : i = 0
          · subst h0
            simp [h1, h2]
          · rw [hw, if_pos (by simp [h2]), if_pos (show (i : Int) > 0 by omega), if_pos (by omega), if_pos (by omega)]
            generalize rd l ((i - 1 : Nat) : Int) = y
            by_cases h3 : x ≤ y
            · have : ¬ y < x := by omega
              simp [h1, h2, h3, this, h0]
            · have : y < x := by omega
              simp [h1, h2, h3, this, h0]
      · simp [h1, h2]
    · rw [if_neg h1, Option.bind_some]
      simp [h1]

/-- Where the line behind i breaks begins. -/
def fromAt (l : List Int) (i : Nat) : Int := if i = 0 then 0 else rd l ((i - 1 : Nat) : Int)
theorem fromAt_succ (l : List Int) (i : Nat) : fromAt l (i + 1) = rd l (i : Nat) := by
  unfold fromAt
  rw [if_neg (by omega), Nat.add_sub_cancel]
theorem told_at {n : Int} {l : List Int} (h : toldB n l = true) (i : Nat) (hi : i < l.length) : 1 ≤ rd l (i : Nat) ∧ rd l (i : Nat) ≤ n - 1 ∧ fromAt l i < rd l (i : Nat) := by
  unfold toldB at h
  have := List.all_eq_true.1 h i (List.mem_range.2 hi)
  unfold stepB at this
  simp only [Bool.and_eq_true, Bool.or_eq_true, decide_eq_true_iff] at this
  obtain ⟨⟨h1, h2⟩, h3⟩ := this
  refine ⟨h1, h2, ?_⟩
  unfold fromAt
  split
  · omega
  · exact h3.resolve_left (by assumption)
theorem told_from {n : Int} {l : List Int} (h : toldB n l = true) (hn : 0 ≤ n) : ∀ i : Nat, i ≤ l.length → (i : Int) ≤ fromAt l i ∧ fromAt l i ≤ n
  | 0, _ => ⟨by simp [fromAt], by simp [fromAt, hn]⟩
  | i + 1, hi => by
    have h1 := told_from h hn i (by omega)
    have h2 := told_at h i (by omega)
    rw [fromAt_succ]
    omega
theorem told_small {n : Int} {l : List Int} (h : toldB n l = true) (hn : 0 ≤ n) : (l.length : Int) ≤ n := by
  have := told_from h hn l.length (Nat.le_refl _)
  omega

/-- The lines, from a place on. -/
def linesGo (ws : List ByteArray) : Int → List Int → List (List ByteArray)
  | at_, [] => [ws.drop at_.toNat]
  | at_, b :: t => ((ws.take b.toNat).drop at_.toNat) :: linesGo ws b t
theorem linesGo_mem (ws : List ByteArray) : ∀ (l : List Int) (at_ : Int) (x : List ByteArray), x ∈ linesGo ws at_ l → x.length ≤ ws.length ∧ ∀ y ∈ x, y ∈ ws := by
  intro l
  induction l with
  | nil =>
    intro at_ x h
    rw [linesGo, List.mem_singleton] at h
    subst h
    exact ⟨by rw [List.length_drop]; omega, fun y hy => List.mem_of_mem_drop hy⟩
  | cons b t ih =>
    intro at_ x h
    rw [linesGo, List.mem_cons] at h
    rcases h with rfl | h
    · exact ⟨by rw [List.length_drop, List.length_take]; omega, fun y hy => List.mem_of_mem_take (List.mem_of_mem_drop hy)⟩
    · exact ih b x h
theorem linesGo_len (ws : List ByteArray) : ∀ (l : List Int) (at_ : Int), (linesGo ws at_ l).length = l.length + 1 := by
  intro l
  induction l with
  | nil => intro _; rfl
  | cons b t ih => intro at_; rw [linesGo, List.length_cons, ih, List.length_cons]

theorem drop_step (l : List Int) (i : Nat) (h : i < l.length) : l.drop i = rd l (i : Nat) :: l.drop (i + 1) := by
  rw [rd_get _ _ h, List.drop_eq_getElem_cons h]

theorem spec_l02Lines.val (ws : List ByteArray) (hw : ws.length ≤ 61) (l : List Int) (h : toldB (ws.length : Int) l = true) (k : Nat) (hk : 100 < k) : spec_l02Lines.f k ws l = some (linesGo ws 0 l) := by
  have hs := told_small h (by omega)
  have key : ∀ d i k (acc : List (List ByteArray)), i + d = l.length → d < k → acc.length = i → spec_l02Lines.l0 k ws l acc (fromAt l i) (i : Int) = some (acc ++ linesGo ws (fromAt l i) (l.drop i)) := by
    intro d
    induction d with
    | zero =>
      intro i k acc hi hk ha
      obtain ⟨k, rfl⟩ : ∃ m, k = m + 1 := ⟨k - 1, by omega⟩
      have hf := told_from h (by omega) i (by omega)
      rw [List.drop_of_length_le (by omega), linesGo, spec_l02Lines.l0, if_neg (by omega), if_pos (by omega), if_pos (by omega), if_pos (by omega)]
    | succ d ih =>
      intro i k acc hi hk ha
      obtain ⟨k, rfl⟩ : ∃ m, k = m + 1 := ⟨k - 1, by omega⟩
      have hf := told_from h (by omega) i (by omega)
      have ht := told_at h i (by omega)
      rw [drop_step l i (by omega), linesGo, spec_l02Lines.l0, if_pos (by omega), if_pos (by omega), if_pos (by omega), if_pos (by omega), if_pos (by omega), if_pos (by omega), wrap_succ (n := l.length) (by omega) (by omega)]
      have := ih (i + 1) k (acc ++ [(ws.take (rd l (i : Nat)).toNat).drop (fromAt l i).toNat]) (by omega) (by omega) (by rw [List.length_append, ha]; rfl)
      rw [fromAt_succ, List.append_assoc] at this
      exact this
  have := key l.length 0 k [] (by omega) (by omega) rfl
  rw [List.nil_append, List.drop_zero] at this
  exact this

theorem impl_lines.val (ws : List ByteArray) (hw : ws.length ≤ 61) (hz : ∀ x ∈ ws, x.size ≤ 1048576) (l : List Int) (h : toldB (ws.length : Int) l = true) (k : Nat) (hk : 100 < k) : impl_lines.f k ws l = some ((linesGo ws 0 l).map fun x => joinB x spB) := by
  have hs := told_small h (by omega)
  have hj : ∀ x : List ByteArray, x.length ≤ ws.length → (∀ y ∈ x, y ∈ ws) → strings_Join.f x (⟨#[32]⟩ : ByteArray) = some (joinB x spB) := fun x h1 h2 => by
    unfold strings_Join.f
    rw [if_pos ⟨⟨by omega, fun y hy => hz y (h2 y hy)⟩, by decide⟩]
    rfl
  have hr : ∀ i : Nat, i < l.length → rd (l ++ [(ws.length : Int)]) (i : Nat) = rd l (i : Nat) := fun i hi => by
    rw [rd_get _ _ hi, rd_get _ _ (by rw [List.length_append]; omega), List.getElem_append_left hi]
  have hr2 : rd (l ++ [(ws.length : Int)]) (l.length : Nat) = (ws.length : Int) := by
    rw [rd_get _ _ (by simp), List.getElem_append_right (Nat.le_refl _)]
    simp
  have hln : ((l ++ [(ws.length : Int)]).length : Int) = (l.length : Int) + 1 := by simp
  have key : ∀ d i k (acc : List ByteArray), i + d = l.length → d + 1 < k → acc.length = i → impl_lines.l0 k ws acc (fromAt l i) (l ++ [(ws.length : Int)]) ((l.length : Int) + 1) (i : Int) = some (acc ++ (linesGo ws (fromAt l i) (l.drop i)).map fun x => joinB x spB) := by
    intro d
    induction d with
    | zero =>
      intro i k acc hi hk ha
      obtain ⟨k, rfl⟩ : ∃ m, k = m + 1 + 1 := ⟨k - 2, by omega⟩
      have hf := told_from h (by omega) i (by omega)
      obtain rfl : i = l.length := by omega
      rw [List.drop_of_length_le (Nat.le_refl _), linesGo, impl_lines.l0, hln, hr2, if_pos (by omega), if_pos (by omega), if_pos (by omega), if_pos (by omega), if_pos (by omega), if_pos (by omega), Int.toNat_natCast, List.take_length,
        hj _ (by rw [List.length_drop]; omega) (fun y hy => List.mem_of_mem_drop hy), Option.bind_some, if_pos (by omega), wrap_id (by omega) (by omega), impl_lines.l0, if_neg (by omega)]
      rfl
    | succ d ih =>
      intro i k acc hi hk ha
      obtain ⟨k, rfl⟩ : ∃ m, k = m + 1 := ⟨k - 1, by omega⟩
      have hf := told_from h (by omega) i (by omega)
      have ht := told_at h i (by omega)
      rw [drop_step l i (by omega), linesGo, impl_lines.l0, hln, hr i (by omega), if_pos (by omega), if_pos (by omega), if_pos (by omega), if_pos (by omega), if_pos (by omega), if_pos (by omega),
        hj _ (by rw [List.length_drop, List.length_take]; omega) (fun y hy => List.mem_of_mem_take (List.mem_of_mem_drop hy)), Option.bind_some, if_pos (by omega), wrap_succ (n := l.length) (by omega) (by omega)]
      have := ih (i + 1) k (acc ++ [joinB ((ws.take (rd l (i : Nat)).toNat).drop (fromAt l i).toNat) spB]) (by omega) (by omega) (by rw [List.length_append, ha]; rfl)
      rw [fromAt_succ, List.append_assoc] at this
      exact this
  have := key l.length 0 k [] (by omega) (by omega) rfl
  rw [List.nil_append, List.drop_zero] at this
  unfold impl_lines.f slices_Clone_int64.f impl_size_string.f
  rw [if_pos (by omega), Option.bind_some, Option.bind_some, if_pos (by omega), Option.bind_some, hln]
  exact this

def linesM (a : ByteArray) (l : List Int) : List ByteArray × Int :=
  if textB a = true then (if toldB ((wordsF a).length : Int) l = true then ((linesGo (wordsF a) 0 l).map fun x => joinB x spB, 0) else ([], 4)) else ([], 1)
theorem linesM_len (a : ByteArray) (l : List Int) : (linesM a l).1.length ≤ l.length + 1 := by
  unfold linesM
  split
  · split
    · simp [linesGo_len]
    · exact Nat.zero_le _
  · exact Nat.zero_le _

theorem impl_LinesOf.val (a : ByteArray) (l : List Int) (hl : l.length ≤ 1048576) (k : Nat) (hk : l.length + 200 < k) : impl_LinesOf.f k a l = some (linesM a l) := by
  unfold impl_LinesOf.f impl_WordsOf.f linesM
  rw [impl_ValidText.valM a _ (by omega), Option.bind_some]
  by_cases ht : textB a = true
  · have hw := wordsF_small ht
    have hz : ∀ x ∈ wordsF a, x.size ≤ 1048576 := fun x hx => by have := words_size a x hx; have := text_small ht; omega
    rw [if_pos ht, if_pos ht, strings_Fields.val a ht, Option.bind_some, Option.bind_some, if_pos rfl]
    dsimp only
    rw [impl_areBreaks.val _ (by omega) (by omega) l hl k (by omega), Option.bind_some]
    by_cases hb : toldB ((wordsF a).length : Int) l = true
    · rw [if_pos hb, if_pos hb, impl_lines.val _ hw hz l hb k (by omega), Option.bind_some]
    · rw [if_neg hb, if_neg hb]
  · rw [if_neg ht, if_neg ht, Option.bind_some, if_neg (by decide)]

theorem spec_LinesOf.val (a : ByteArray) (ha : a.size ≤ 1048576) (l : List Int) (hl : l.length ≤ 1048576) (k : Nat) (hk : 4000000 < k) : spec_LinesOf.f k a l = some (linesM a l) := by
  unfold spec_LinesOf.f linesM
  rw [at_rounds (spec_l01Text.mono a) (by omega) (spec_l01Text.val a (by omega)), Option.bind_some]
  by_cases ht : textB a = true
  · have hw := wordsF_small ht
    have hz : ∀ x ∈ wordsF a, x.size ≤ 1048576 := fun x hx => by have := words_size a x hx; have := text_small ht; omega
    rw [if_pos ht, if_pos ht, spec_l01Words.val a ht _ (by omega), Option.bind_some, spec_l02Told.val _ (by omega) (by omega) l hl k (by omega), Option.bind_some]
    by_cases hb : toldB ((wordsF a).length : Int) l = true
    · rw [if_pos hb, if_pos hb, spec_l02Lines.val _ hw l hb k (by omega), Option.bind_some]
      have hmem := linesGo_mem (wordsF a) l 0
      have hlen := linesGo_len (wordsF a) l 0
      have hs := told_small hb (by omega)
      generalize linesGo (wordsF a) 0 l = ls at hmem hlen
      have := scan_inv (n := ls.length) (M := 1000) (l := fun k i (x : List ByteArray) => spec_LinesOf.l0 k x ls i) (at_ := fun i => (ls.take i).map fun x => joinB x spB) (r := (ls.map fun x => joinB x spB, (0 : Int))) (fun k i hi hM => ?_) (fun k hM => ?_) k (by omega)
      · simpa using this
      · simp only [spec_LinesOf.l0]
        have hx := hmem _ (List.getElem_mem hi)
        have hr : rd_L9 ls (i : Int) = ls[i] := by
          unfold rd_L9
          simp [List.getD_eq_getElem?_getD, hi]
        have h1 : ((ls.take i).map fun x => joinB x spB).length = i := by simp; omega
        rw [if_pos (by omega), if_pos (by omega), hr, spec_l01Joined.val _ ⟨by omega, fun y hy => hz y (hx.2 y hy)⟩ k (by omega), Option.bind_some, if_pos (by omega), wrap_succ hi (by omega), take_snoc ls i hi, List.map_append]
        rfl
      · simp only [spec_LinesOf.l0]
        rw [if_neg (by omega), List.take_length]
    · rw [if_neg hb, if_neg hb]
  · rw [if_neg ht, if_neg ht]

theorem laws_FnExactLinesOf.holds (a : ByteArray) (l : List Int) (A : Option Addr) (c : Nat) (W : World) (hG : GlobF W) (hr : Kd.C (Kd.int .i64) W A l.length l) (hc : l.length ≤ c) (ha : a.size ≤ 9223372036854775807) :
    Calls Tryd.prog 8 #[.string a, .slice A l.length c] W fun e w' => e = .returned (.bool true) ∧ Below W.heap.size W w' := by
  obtain ⟨K, hK⟩ : ∃ K, K = 4000010 := ⟨_, rfl⟩
  refine laws_FnExactLinesOf.calls (K + 3) a A c l true W hG hr hc ?_
  unfold laws_FnExactLinesOf.f
  by_cases h : (a.size : Int) > 1048576
  · rw [if_pos h]
  rw [if_neg h]
  by_cases hl : (l.length : Int) > 1048576
  · rw [if_pos hl]
  rw [if_neg hl]
  have hlen := linesM_len a l
  have e0 : ∀ k, 4000005 ≤ k → laws_toInt64S.f k l = some l := fun k hk => at_rounds (laws_toInt64S.mono l) (by omega) (laws_toInt64S.val l (by omega))
  have e1 : ∀ k, 4000005 ≤ k → laws_eqInt64S.f k l l = some true := fun k hk => by
    rw [at_rounds (laws_eqInt64S.mono l l) (by omega) (laws_eqInt64S.val l l (by omega))]; simp
  have e2 : ∀ k, 4000005 ≤ k → laws_markInt64S.f k l 1 = some (((l.length + 1 : Nat) : Int), oneTo l.length) := fun k hk => at_rounds (laws_markInt64S.mono _ _) (by omega) (laws_markInt64S.val l (by omega))
  have e3 : ∀ k, 4000005 ≤ k → laws_eqStringS.f k (linesM a l).1 (linesM a l).1 = some true := fun k hk => by
    rw [at_rounds (laws_eqStringS.mono _ _) (by omega) (laws_eqStringS.val (linesM a l).1 (linesM a l).1 (by omega))]; simp
  have e4 : ∀ k, 4000005 ≤ k → impl_LinesOf.f k a l = some (linesM a l) := fun k hk => impl_LinesOf.val a l (by omega) k (by omega)
  have e5 : ∀ k, 4000005 ≤ k → spec_LinesOf.f k a l = some (linesM a l) := fun k hk => spec_LinesOf.val a (by omega) l (by omega) k (by omega)
  generalize hq : linesM a l = q at *
  have e6 : ∀ k, 4000005 ≤ k → laws_markStringS.f k q.1 1 = some (((q.1.length + 1 : Nat) : Int), marksTo q.1.length) := fun k hk => laws_markStringS.val q.1 (by omega) k (by omega)
  have e7 : ∀ k, 4000005 ≤ k → laws_heldStringS.f k (marksTo q.1.length) 1 = some ((q.1.length + 1 : Nat) : Int) := fun k hk => laws_heldStringS.val q.1.length (by omega) k (by omega)
  rw [e0 _ (by omega), Option.bind_some, e5 _ (by omega), Option.bind_some, Option.bind_some, e4 _ (by omega), Option.bind_some, e3 _ (by omega), Option.bind_some, if_pos rfl, bne_self_eq_false]
  show laws_FnExactLinesOf.j0 (K + 2 + 1) _ _ _ _ _ _ _ _ = _
  rw [laws_FnExactLinesOf.j0, if_neg (by decide), e0 _ (by omega), Option.bind_some, e1 _ (by omega), Option.bind_some, if_pos rfl, e2 _ (by omega), Option.bind_some, if_neg (by omega), e3 _ (by omega), Option.bind_some, if_pos rfl, bne_self_eq_false]
  show laws_FnExactLinesOf.j1 (K + 1 + 1) _ _ _ _ _ _ = _
  rw [laws_FnExactLinesOf.j1, if_neg (by decide), e6 _ (by omega), Option.bind_some, e7 _ (by omega), Option.bind_some, if_neg (by omega), if_pos rfl, e0 _ (by omega), Option.bind_some, e4 _ (by omega), Option.bind_some, e3 _ (by omega), Option.bind_some, if_pos rfl, bne_self_eq_false]
  show laws_FnExactLinesOf.j2 (K + 1) _ _ _ = _
  rw [laws_FnExactLinesOf.j2, if_neg (by decide), e7 _ (by omega), Option.bind_some, if_neg (by omega), if_pos rfl]
end Go.Proofs.YtiapaggkbhdnkaaDoor.Q
