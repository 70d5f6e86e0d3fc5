/- What a valid system is, and the value of a letter; no condition. -/
import Derived.Test.YtnacfljfalkonaaQpureSystem
import Derived.Test.YtnacfljfalkonaaQVal
namespace Go.Proofs.Ytnacfljfalkonaa.Q
open Go.RowKit Go.Proofs.YtnacfljfalkonaaW.PrintWords Go.Proofs.Ytnacfljfalkonaa.Pure
set_option linter.unusedVariables false

def letB (a : Int) : Bool := decide (65 ≤ a) && decide (a ≤ 90)
def rngB (v : Int) : Bool := decide (1 ≤ v) && decide (v ≤ 5000)
/-- The value of a letter. -/
def valB (s : List SG) (c : Int) : Int := ((s.find? (fun x => decide (x.f0 = c))).map (·.f1)).getD 0
def fit16 (s : List SG) : Prop := ∀ x ∈ s, -32768 ≤ x.f1 ∧ x.f1 ≤ 32767
def headB (s : List SG) (m : List MP) : Bool := decide (1 ≤ s.length) && decide (s.length ≤ 8) && decide (m.length ≤ 8) && decide ((rd_T77 s ((s.length - 1 : Nat) : Int)).f1 = 1)
def dupB (s : List SG) (i : Nat) : Bool := (s.take i).any (fun y => decide (y.f0 = (rd_T77 s (i : Int)).f0))
def sgB (s : List SG) (i : Nat) : Bool := letB (rd_T77 s (i : Int)).f0 && rngB (rd_T77 s (i : Int)).f1 && (decide (i = 0) || decide ((rd_T77 s (i : Int)).f1 < (rd_T77 s ((i - 1 : Nat) : Int)).f1)) && !dupB s i
/-- A pair comes ahead of another one. -/
def aheadB (p q : MP) : Bool := decide (p.f0 < q.f0) || (decide (p.f0 = q.f0) && decide (p.f1 < q.f1))
def mpB (s : List SG) (m : List MP) (i : Nat) : Bool :=
  decide (valB s (rd_T79 m (i : Int)).f0 ≠ 0) && decide (valB s (rd_T79 m (i : Int)).f0 < valB s (rd_T79 m (i : Int)).f1) && (decide (i = 0) || aheadB (rd_T79 m ((i - 1 : Nat) : Int)) (rd_T79 m (i : Int)))
def okB (s : List SG) (m : List MP) : Bool := headB s m && (List.range s.length).all (sgB s) && (List.range m.length).all (mpB s m)

theorem valB_le {s : List SG} (hf : fit16 s) (c : Int) : -32768 ≤ valB s c ∧ valB s c ≤ 32767 := by
  unfold valB
  cases h : s.find? (fun x => decide (x.f0 = c)) with
  | none => simp
  | some x => exact hf x (List.mem_of_find?_eq_some h)
theorem valB_cons (x : SG) (s : List SG) (c : Int) : valB (x :: s) c = if x.f0 = c then x.f1 else valB s c := by
  unfold valB
  rw [List.find?_cons]
  by_cases h : x.f0 = c <;> simp [h]
theorem spec_l03Value.val (s : List SG) (m : List MP) (c : Int) (hs : s.length ≤ 1048576) (hf : fit16 s) (k : Nat) (hk : s.length < k) : spec_l03Value.f k s m c = some (valB s c) := by
  unfold spec_l03Value.f
  have key : ∀ d i k, i + d = s.length → d < k → spec_l03Value.l0 k c (i : Nat) s m = some (valB (s.drop i) c) := by
    intro d
    induction d with
    | zero =>
      intro i k hi hk
      obtain ⟨k, rfl⟩ : ∃ j, k = j + 1 := ⟨k - 1, by omega⟩
      simp only [spec_l03Value.l0]
      rw [if_neg (by omega), List.drop_of_length_le (by omega)]
      rfl
    | succ d ih =>
      intro i k hi hk
      obtain ⟨k, rfl⟩ : ∃ j, k = j + 1 := ⟨k - 1, by omega⟩
      have hlt : i < s.length := by omega
      simp only [spec_l03Value.l0]
      rw [if_pos (by omega), if_pos (by omega), rdSG_get _ _ hlt, List.drop_eq_getElem_cons hlt, valB_cons]
      have hb := hf _ (List.getElem_mem hlt)
      by_cases h : s[i].f0 = c
      · rw [if_pos h, if_pos h, wrap_id (by omega) (by omega)]
      · rw [if_neg h, if_neg h, wrap_succ hlt (by omega)]
        exact ih (i + 1) k (by omega) (by omega)
  exact key s.length 0 k (by omega) hk
theorem impl_System_value.val (s : List SG) (m : List MP) (c : Int) (hs : s.length ≤ 1048576) (hf : fit16 s) (k : Nat) (hk : s.length < k) : impl_System_value.f k s m c = some (valB s c) := by
  unfold impl_System_value.f
  have key : ∀ d i k, i + d = s.length → d < k → impl_System_value.l0 k c s (s.length : Int) (i : Nat) = some (valB (s.drop i) c) := by
    intro d
    induction d with
    | zero =>
      intro i k hi hk
      obtain ⟨k, rfl⟩ : ∃ j, k = j + 1 := ⟨k - 1, by omega⟩
      simp only [impl_System_value.l0]
      rw [if_neg (by omega), List.drop_of_length_le (by omega)]
      rfl
    | succ d ih =>
      intro i k hi hk
      obtain ⟨k, rfl⟩ : ∃ j, k = j + 1 := ⟨k - 1, by omega⟩
      have hlt : i < s.length := by omega
      simp only [impl_System_value.l0]
      rw [if_pos (by omega), if_pos (by omega), if_pos (by omega), rdSG_get _ _ hlt, List.drop_eq_getElem_cons hlt, valB_cons]
      have hb := hf _ (List.getElem_mem hlt)
      by_cases h : s[i].f0 = c
      · rw [if_pos h, if_pos h, wrap_id (by omega) (by omega)]
      · rw [if_neg h, if_neg h, wrap_succ hlt (by omega)]
        exact ih (i + 1) k (by omega) (by omega)
  exact key s.length 0 k (by omega) hk

theorem okB_head {s : List SG} {m : List MP} (h : headB s m = false) : okB s m = false := by unfold okB; rw [h, Bool.false_and, Bool.false_and]
theorem okB_sg {s : List SG} {m : List MP} (i : Nat) (hi : i < s.length) (h : sgB s i = false) : okB s m = false := by
  unfold okB
  have : (List.range s.length).all (sgB s) = false := by
    rw [List.all_eq_false]
    exact ⟨i, List.mem_range.2 hi, by rw [h]; simp⟩
  rw [this, Bool.and_false, Bool.false_and]
theorem okB_mp {s : List SG} {m : List MP} (i : Nat) (hi : i < m.length) (h : mpB s m i = false) : okB s m = false := by
  unfold okB
  have : (List.range m.length).all (mpB s m) = false := by
    rw [List.all_eq_false]
    exact ⟨i, List.mem_range.2 hi, by rw [h]; simp⟩
  rw [this, Bool.and_false]
theorem all_step {p : Nat → Bool} {i : Nat} (h : (List.range i).all p = true) (hi : p i = true) : (List.range (i + 1)).all p = true := by
  rw [List.range_succ, List.all_append, h]
  simp [hi]
theorem okB_all {s : List SG} {m : List MP} (h0 : headB s m = true) (h1 : (List.range s.length).all (sgB s) = true) (h2 : (List.range m.length).all (mpB s m) = true) : okB s m = true := by
  unfold okB; rw [h0, h1, h2]; rfl
theorem dupB_step {s : List SG} {i k : Nat} (hk : k < i) (hi : i < s.length) (h : (s.take k).any (fun y => decide (y.f0 = (rd_T77 s (i : Int)).f0)) = false) (hn : ¬ (rd_T77 s (k : Int)).f0 = (rd_T77 s (i : Int)).f0) :
    (s.take (k + 1)).any (fun y => decide (y.f0 = (rd_T77 s (i : Int)).f0)) = false := by
  rw [List.take_succ_eq_append_getElem (by omega), List.any_append, h, ← rdSG_get s k (by omega)]
  simp [hn]
theorem dupB_hit {s : List SG} {i k : Nat} (hk : k < i) (hi : i < s.length) (hn : (rd_T77 s (k : Int)).f0 = (rd_T77 s (i : Int)).f0) : dupB s i = true := by
  unfold dupB
  rw [List.any_eq_true]
  refine ⟨s[k]'(by omega), ?_, ?_⟩
  · rw [List.mem_take_iff_getElem]
    exact ⟨k, by omega, rfl⟩
  · rw [← rdSG_get s k (by omega), hn]
    simp
end Go.Proofs.Ytnacfljfalkonaa.Q
