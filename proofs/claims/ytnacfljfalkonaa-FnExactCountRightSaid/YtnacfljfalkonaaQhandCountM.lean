/- impl.CountRight: the map of places, its two operations; by hand. -/
import Derived.Test.YtnacfljfalkonaaQhandCountB
import Derived.DeepKeys3
import Derived.Laws.StructEq
import Derived.MapKept
namespace Go.Proofs.Ytnacfljfalkonaa.Q
open Go.RowKit Go.Proofs.YtnacfljfalkonaaW.PrintWords Go.Proofs.YtnacfljfalkonaaW.PrintLast Go.Proofs.YtnacfljfalkonaaW.PrintMore
open Go.Proofs.Ytnacfljfalkonaa.Pure
set_option linter.unusedVariables false
set_option linter.unusedSimpArgs false

def keyV (a b c : Int) : Value := .agg #[.int .i64 a, .int .i64 b, .int .i64 c]
theorem eq73 (a b c a' b' c' : Int) (w : World) : (Op.equal 73 (keyV a b c) (keyV a' b' c')).run Try.prog w = .ok (a == a' && (b == b' && c == c')) w := by
  unfold Op.equal Op.maxDepth keyV
  rw [run_equalIn_agg w 9999 73 _ _ (by kernel_rfl) (by kernel_rfl)]
  simp [Op.eqFields, Program.fieldsOf, Try.underlying73, part, run_equalIn_int, Try.underlying2, Try.underlying3]
  by_cases h1 : a = a' <;> by_cases h2 : b = b' <;> by_cases h3 : c = c' <;> simp [h1, h2, h3]
theorem same_keyV (a b c : Int) : Instr.sameBits 10000 (keyV a b c) (keyV a b c) = true := by
  show Instr.sameBits (9998 + 1 + 1) (.agg #[.int .i64 a, .int .i64 b, .int .i64 c]) (.agg #[.int .i64 a, .int .i64 b, .int .i64 c]) = true
  generalize 9998 = n
  simp [Instr.sameBits]
theorem check73 (em : Bool) (a b c : Int) (w : World) : (Instr.checkKey em 10000 73 (keyV a b c)).run Try.prog w = .ok () w := by
  unfold keyV
  show (Instr.checkKey em (9998 + 1 + 1) 73 (.agg #[.int .i64 a, .int .i64 b, .int .i64 c])).run Try.prog w = .ok () w
  generalize 9998 = n
  simp [Instr.checkKey, Try.underlying73, part, Try.underlying2, Try.underlying3]
/-- Each entry holds what the search answers at its place. -/
def Fine (S : Int → Int → Int → Int) (es : List MapEntry) : Prop := ∀ e ∈ es, ∃ a b c, e.key = keyV a b c ∧ e.val = .int .i64 (S a b c)
theorem asking (S : Int → Int → Int → Int) (a b c : Int) (w : World) : ∀ (es : List MapEntry) (i : Nat), Fine S es →
    (Instr.findAsking 73 (keyV a b c) es i).run Try.prog w = .ok none w ∨ ∃ j, j < i + es.length ∧ i ≤ j ∧ (es[j - i]?).map (·.key) = some (keyV a b c) ∧ (Instr.findAsking 73 (keyV a b c) es i).run Try.prog w = .ok (some (j, .int .i64 (S a b c))) w
  | [], i, _ => Or.inl (by simp [Instr.findAsking])
  | e :: es, i, h => by
    obtain ⟨a', b', c', hk, hv⟩ := h e (List.mem_cons_self ..)
    have he := eq73 a b c a' b' c' w
    by_cases hc : (a == a' && (b == b' && c == c')) = true
    · rw [hc] at he
      simp only [Bool.and_eq_true, beq_iff_eq] at hc
      obtain ⟨rfl, rfl, rfl⟩ := hc
      refine Or.inr ⟨i, by simp, Nat.le_refl _, by simp [hk], ?_⟩
      simp [Instr.findAsking, hk, he, hv]
    · have hc2 : (a == a' && (b == b' && c == c')) = false := by simpa using hc
      rw [hc2] at he
      rcases asking S a b c w es (i + 1) (fun x hx => h x (List.mem_cons_of_mem _ hx)) with h1 | ⟨j, hj, hj2, hj3, h1⟩
      · exact Or.inl (by simp [Instr.findAsking, hk, he, h1])
      · refine Or.inr ⟨j, by simp; omega, by omega, ?_, by simp [Instr.findAsking, hk, he, h1]⟩
        obtain ⟨d, rfl⟩ : ∃ d, j = i + 1 + d := ⟨j - (i + 1), by omega⟩
        rw [show i + 1 + d - i = d + 1 by omega, List.getElem?_cons_succ]
        rw [show i + 1 + d - (i + 1) = d by omega] at hj3
        exact hj3
theorem look67 (S : Int → Int → Int → Int) (a b c : Int) {w : World} {g : Nat} {es : Array MapEntry} {clock : Nat} (hg : w.heap[g]? = some (.map es clock)) (hf : Fine S es.toList) :
    (Instr.lookup 67 (.map (some g)) (keyV a b c) true).run Try.prog w = .ok (.tuple #[.int .i64 0, .bool false]) w ∨ (Instr.lookup 67 (.map (some g)) (keyV a b c) true).run Try.prog w = .ok (.tuple #[.int .i64 (S a b c), .bool true]) w := by
  have h0 := run_findKey_eq (P := Try.prog) (w := w) (k := 73) (by kernel_rfl) (keyV a b c) es.toList
  have hz : (zeroValue 2).run Try.prog w = .ok (.int .i64 0) w := by simp
  rcases asking S a b c w es.toList 0 hf with h1 | ⟨j, _, _, _, h1⟩
  · left
    simp [Instr.lookup, Try.underlying67, MapKept.run_getObj_map hg, check73, h0, h1, hz]
  · right
    simp [Instr.lookup, Try.underlying67, MapKept.run_getObj_map hg, check73, h0, h1]
theorem put67 (S : Int → Int → Int → Int) (a b c : Int) {w : World} {g : Nat} {es : Array MapEntry} {clock : Nat} (hg : w.heap[g]? = some (.map es clock)) (hf : Fine S es.toList) :
    ∃ (es' : Array MapEntry) (clock' : Nat), (Instr.mapUpdate 67 (.map (some g)) (keyV a b c) (.int .i64 (S a b c))).run Try.prog w = .ok () { w with heap := w.heap.setIfInBounds g (.map es' clock') } ∧ Fine S es'.toList := by
  have h0 := run_findKey_eq (P := Try.prog) (w := w) (k := 73) (by kernel_rfl) (keyV a b c) es.toList
  rcases asking S a b c w es.toList 0 hf with h1 | ⟨j, hj, _, hj3, h1⟩
  · refine ⟨es.push { key := keyV a b c, val := .int .i64 (S a b c), born := clock }, clock + 1, ?_, ?_⟩
    · simp [Instr.mapUpdate, Try.underlying67, MapKept.run_getObj_map hg, MapKept.run_setObj_map _ hg, check73, h0, h1]
    · intro e he
      rw [Array.toList_push, List.mem_append] at he
      rcases he with he | he
      · exact hf e he
      · rw [List.mem_singleton.1 he]
        exact ⟨a, b, c, rfl, rfl⟩
  · refine ⟨es.modify j fun e => { e with key := keyV a b c, val := .int .i64 (S a b c) }, clock, ?_, ?_⟩
    · rw [Nat.sub_zero] at hj3
      rw [Array.getElem?_toList] at hj3
      simp [Instr.mapUpdate, Try.underlying67, MapKept.run_getObj_map hg, MapKept.run_setObj_map _ hg, check73, h0, h1, Instr.keyThatStays, hj3, same_keyV]
    · intro e he
      obtain ⟨i, hi⟩ := List.getElem?_of_mem he
      rw [Array.getElem?_toList, Array.getElem?_modify] at hi
      split at hi
      · cases hx : es[i]? with
        | none => rw [hx] at hi; cases hi
        | some x =>
          rw [hx] at hi
          cases hi
          exact ⟨a, b, c, rfl, rfl⟩
      · exact hf e (List.mem_of_getElem? (by rw [Array.getElem?_toList]; exact hi))
end Go.Proofs.Ytnacfljfalkonaa.Q
