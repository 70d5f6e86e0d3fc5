/- What the laws' own helpers on systems compute: copies, comparisons, marks; no condition. -/
import Derived.Test.YtnacfljfalkonaaBase
import Derived.Test.YtnacfljfalkonaaQLawH
namespace Go.Proofs.Ytnacfljfalkonaa.Q
open Go.RowKit Go.Proofs.YtnacfljfalkonaaW.PrintWords Go.Proofs.Ytnacfljfalkonaa.Pure
set_option linter.unusedVariables false

abbrev SG := S77
abbrev LSG := S82
abbrev MP := S79
instance decSG : DecidableEq SG := fun a b => decidable_of_iff (a.f0 = b.f0 ∧ a.f1 = b.f1) ⟨fun h => by cases a; cases b; obtain ⟨rfl, rfl⟩ := h; rfl, fun h => by rw [h]; exact ⟨rfl, rfl⟩⟩
theorem rdSG_get (xs : List SG) (k : Nat) (h : k < xs.length) : rd_T77 xs (k : Int) = xs[k] := by
  unfold rd_T77
  simp [List.getD_eq_getElem?_getD, h]
theorem rdLSG_get (xs : List LSG) (k : Nat) (h : k < xs.length) : rd_T82 xs (k : Int) = xs[k] := by
  unfold rd_T82
  simp [List.getD_eq_getElem?_getD, h]
def toS (l : List LSG) : List SG := l.map fun x => ⟨x.f0, x.f1⟩
theorem toS_len (l : List LSG) : (toS l).length = l.length := by simp [toS]

theorem laws_toSignS.val (l : List LSG) (hl : l.length ≤ 1048576) (k : Nat) (hk : l.length < k) : laws_toSignS.f k l = some (toS l) := by
  unfold laws_toSignS.f
  rw [if_pos (by omega), if_pos (by omega)]
  refine scan_copy (n := l.length) (l := fun k i x => laws_toSignS.l0 k l x i) (toS_len l) (fun k i x hi hx => ?_) (fun k x hx => ?_) _ hk _ (by simp)
  · simp only [laws_toSignS.l0, laws_toSign.f, Option.bind_some]
    rw [if_pos (by omega), if_pos (by omega), if_pos (by omega), wrap_succ hi (by omega), rdLSG_get _ _ hi, Int.toNat_natCast]
    simp [toS]
  · simp [laws_toSignS.l0]
theorem laws_toByteA2S.val (l : List MP) (hl : l.length ≤ 1048576) (k : Nat) (hk : l.length < k) : laws_toByteA2S.f k l = some l := by
  unfold laws_toByteA2S.f
  rw [if_pos (by omega), if_pos (by omega)]
  refine scan_copy (n := l.length) (l := fun k i x => laws_toByteA2S.l0 k l x i) rfl (fun k i x hi hx => ?_) (fun k x hx => ?_) _ hk _ (by simp)
  · simp only [laws_toByteA2S.l0, laws_toByteA2.f, Option.bind_some]
    rw [if_pos (by omega), if_pos (by omega), if_pos (by omega), wrap_succ hi (by omega), rdA2_get _ _ hi, Int.toNat_natCast]
  · simp [laws_toByteA2S.l0]
theorem laws_toSystem.val (a : List LSG) (b : List MP) (ha : a.length ≤ 1048576) (hb : b.length ≤ 1048576) (k : Nat) (hka : a.length < k) (hkb : b.length < k) : laws_toSystem.f k a b = some (toS a, b) := by
  unfold laws_toSystem.f
  rw [laws_toSignS.val a ha k hka, Option.bind_some, laws_toByteA2S.val b hb k hkb, Option.bind_some]

theorem SG_eq (x y : SG) : x = y ↔ x.f0 = y.f0 ∧ x.f1 = y.f1 := ⟨fun h => by rw [h]; exact ⟨rfl, rfl⟩, fun h => by cases x; cases y; obtain ⟨rfl, rfl⟩ := h; rfl⟩
theorem MP_eq (x y : MP) : x = y ↔ x.f0 = y.f0 ∧ x.f1 = y.f1 := ⟨fun h => by rw [h]; exact ⟨rfl, rfl⟩, fun h => by cases x; cases y; obtain ⟨rfl, rfl⟩ := h; rfl⟩
theorem laws_eqSign.val (x y : SG) : laws_eqSign.f x.f0 x.f1 y.f0 y.f1 = some (decide (x = y)) := by
  unfold laws_eqSign.f
  by_cases h0 : x.f0 = y.f0
  · by_cases h1 : x.f1 = y.f1
    · rw [if_pos h0, if_pos h1, decide_eq_true ((SG_eq x y).2 ⟨h0, h1⟩)]
    · rw [if_pos h0, if_neg h1, decide_eq_false (fun e => h1 ((SG_eq x y).1 e).2)]
  · rw [if_neg h0, decide_eq_false (fun e => h0 ((SG_eq x y).1 e).1)]
theorem laws_eqByteA2.val (x y : MP) : laws_eqByteA2.f x.f0 x.f1 y.f0 y.f1 = some (decide (x = y)) := by
  unfold laws_eqByteA2.f
  congr 1
  rw [Bool.eq_iff_iff]
  simp [MP_eq]
theorem laws_eqSignS.val (l m : List SG) (hl : l.length ≤ 9223372036854775806) (k : Nat) (hk : l.length < k) : laws_eqSignS.f k l m = some (decide (l = m)) := by
  unfold laws_eqSignS.f
  by_cases h : l.length = m.length
  · rw [if_pos (by omega)]
    have := scan_all (n := l.length) (l := fun k i => laws_eqSignS.l0 k l m i) (p := fun i => decide (rd_T77 l (i : Nat) = rd_T77 m (i : Nat))) (b := true) (fun k i hi => ?_) (fun k => ?_) k hk
    · rw [all_eq_get l m h _ (fun i hi => by rw [rdSG_get _ _ hi, rdSG_get m i (by omega)]), Bool.and_true] at this
      exact this
    · simp only [laws_eqSignS.l0]
      rw [if_pos (by omega), if_pos (by omega), if_pos (by omega), laws_eqSign.val, Option.bind_some, wrap_succ hi (by omega)]
    · simp [laws_eqSignS.l0]
  · rw [if_neg (by omega), decide_eq_false (fun e => h (by rw [e]))]
theorem laws_eqByteA2S.val (l m : List MP) (hl : l.length ≤ 9223372036854775806) (k : Nat) (hk : l.length < k) : laws_eqByteA2S.f k l m = some (decide (l = m)) := by
  unfold laws_eqByteA2S.f
  by_cases h : l.length = m.length
  · rw [if_pos (by omega)]
    have := scan_all (n := l.length) (l := fun k i => laws_eqByteA2S.l0 k l m i) (p := fun i => decide (rd_T79 l (i : Nat) = rd_T79 m (i : Nat))) (b := true) (fun k i hi => ?_) (fun k => ?_) k hk
    · rw [all_eq_get l m h _ (fun i hi => by rw [rdA2_get _ _ hi, rdA2_get m i (by omega)]), Bool.and_true] at this
      exact this
    · simp only [laws_eqByteA2S.l0]
      rw [if_pos (by omega), if_pos (by omega), if_pos (by omega), laws_eqByteA2.val, Option.bind_some, wrap_succ hi (by omega)]
    · simp [laws_eqByteA2S.l0]
  · rw [if_neg (by omega), decide_eq_false (fun e => h (by rw [e]))]
theorem laws_eqSystem.refl (a : List SG) (b : List MP) (ha : a.length ≤ 9223372036854775806) (hb : b.length ≤ 9223372036854775806) (k : Nat) (hka : a.length < k) (hkb : b.length < k) : laws_eqSystem.f k a b a b = some true := by
  unfold laws_eqSystem.f
  rw [laws_eqSignS.val a a ha k hka, Option.bind_some, if_pos (by simp), laws_eqByteA2S.val b b hb k hkb, Option.bind_some, if_pos (by simp)]
/-- What is left of a budget. -/
theorem laws_szSystem.val (a : List LSG) (b : List MP) (ha : a.length ≤ 9223372036854775807) (hb : b.length ≤ 9223372036854775807) (x : Int) (h0 : 0 ≤ x) (hx : x ≤ 1048576) :
    ∃ r, laws_szSystem.f a b x = some r ∧ (r < 0 ∨ (0 ≤ r ∧ r ≤ x ∧ (a.length : Int) ≤ x ∧ (b.length : Int) ≤ x)) := by
  unfold laws_szSystem.f laws_szSignS.f laws_szByteA2S.f
  rw [wrap_id (n := x - (a.length : Int)) (by omega) (by omega)]
  by_cases h1 : x - (a.length : Int) < 0
  · rw [if_pos h1, Option.bind_some, if_pos (by omega)]
    exact ⟨-1, rfl, Or.inl (by omega)⟩
  · rw [if_neg h1, Option.bind_some, if_neg h1, wrap_id (n := x - (a.length : Int) - (b.length : Int)) (by omega) (by omega)]
    by_cases h2 : x - (a.length : Int) - (b.length : Int) < 0
    · rw [if_pos h2, Option.bind_some, if_pos (by omega)]
      exact ⟨-1, rfl, Or.inl (by omega)⟩
    · rw [if_neg h2, Option.bind_some, if_neg h2]
      exact ⟨_, rfl, Or.inr ⟨by omega, by omega, by omega, by omega⟩⟩
end Go.Proofs.Ytnacfljfalkonaa.Q
