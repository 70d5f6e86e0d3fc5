/- The laws' own helpers on rows of shorts. -/
import Derived.Test.YtiapaggkbhdnkaaDoorQLawH
import Derived.Test.YtiapaggkbhdnkaaDoorBase
namespace Go.Proofs.YtiapaggkbhdnkaaDoor.Q
open Go.RowKit Go.Proofs.YtiapaggkbhdnkaaDoorW.PrintWords Go.Proofs.YtiapaggkbhdnkaaDoorW.PrintLast Go.Proofs.YtiapaggkbhdnkaaDoorW.PrintMore
open Go.Proofs.YtiapaggkbhdnkaaDoor.Pure
set_option linter.unusedVariables false

abbrev LSh := S50
abbrev ISh := S51
instance : Inhabited LSh := ⟨z50⟩
instance : Inhabited ISh := ⟨z51⟩
def toSh (x : LSh) : ISh := ⟨x.f0, x.f1⟩

theorem rdLSh_get (xs : List LSh) (k : Nat) (h : k < xs.length) : rd_T50 xs (k : Int) = xs[k] := by
  unfold rd_T50
  simp [List.getD_eq_getElem?_getD, h]
theorem rdISh_get (xs : List ISh) (k : Nat) (h : k < xs.length) : rd_T51 xs (k : Int) = xs[k] := by
  unfold rd_T51
  simp [List.getD_eq_getElem?_getD, h]

theorem laws_toShortS.val (l : List LSh) (hl : l.length ≤ 8796093022208) : laws_toShortS.f (l.length + 1) l = some (l.map toSh) := by
  unfold laws_toShortS.f
  rw [if_pos (by omega), if_pos (by omega)]
  refine scan_copy (n := l.length) (l := fun k i x => laws_toShortS.l0 k l x i) (by simp) (fun k i x hi hx => ?_) (fun k x hx => ?_) _ (by omega) _ (by simp)
  · simp only [laws_toShortS.l0, laws_toShort.f, Option.bind_some]
    rw [if_pos (by omega), if_pos (by omega), if_pos (by omega), wrap_succ hi (by omega), rdLSh_get _ _ hi, Int.toNat_natCast, List.getElem_map]
    rfl
  · simp [laws_toShortS.l0]

theorem laws_eqShort.val (x y : ISh) : laws_eqShort.f x.f0 x.f1 y.f0 y.f1 = some (decide (x.f0 = y.f0 ∧ x.f1 = y.f1)) := by
  unfold laws_eqShort.f
  simp only [bytes_eq]
  by_cases h0 : x.f0 = y.f0 <;> by_cases h1 : x.f1 = y.f1 <;> simp [h0, h1]

theorem laws_eqShortS.val_self (l : List ISh) (hl : l.length ≤ 9223372036854775807) : laws_eqShortS.f (l.length + 1) l l = some true := by
  unfold laws_eqShortS.f
  rw [if_pos rfl]
  have := scan_all (n := l.length) (l := fun k i => laws_eqShortS.l0 k l l i) (p := fun i => true) (b := true) (fun k i hi => ?_) (fun k => ?_) (l.length + 1) (by omega)
  · rw [show (List.range l.length).all (fun _ => true) = true from List.all_eq_true.2 (fun _ _ => rfl)] at this
    exact this
  · simp only [laws_eqShortS.l0]
    rw [if_pos (by omega), if_pos (by omega), if_pos (by omega), laws_eqShort.val, wrap_succ hi (by omega)]
    simp
  · simp [laws_eqShortS.l0]

theorem laws_szShort.val (x : LSh) (h0 : x.f0.size ≤ 9223372036854775807) (h1 : x.f1.size ≤ 9223372036854775807) (b : Int) (hb0 : 0 ≤ b) (hb : b ≤ 9223372036854775807) :
    ∃ r, laws_szShort.f x.f0 x.f1 b = some r ∧ (r < 0 ∨ (0 ≤ r ∧ r ≤ b ∧ r = b - x.f0.size - x.f1.size)) := by
  unfold laws_szShort.f
  rw [wrap_id (n := b - _) (by omega) (by omega)]
  by_cases hq : b - (x.f0.size : Int) < 0
  · rw [if_pos hq]; exact ⟨_, rfl, Or.inl (by omega)⟩
  · rw [if_neg hq, wrap_id (n := b - (x.f0.size : Int) - _) (by omega) (by omega)]
    by_cases hr : b - (x.f0.size : Int) - (x.f1.size : Int) < 0
    · rw [if_pos hr]; exact ⟨_, rfl, Or.inl (by omega)⟩
    · rw [if_neg hr]; exact ⟨_, rfl, Or.inr ⟨by omega, by omega, rfl⟩⟩

/-- What is left of a budget b: less than none, or the row is short and so is each text. -/
theorem laws_szShortS.val (l : List LSh) (hl : l.length ≤ 9223372036854775807) (hs : ∀ x ∈ l, x.f0.size ≤ 9223372036854775807 ∧ x.f1.size ≤ 9223372036854775807) (b : Int) (h0 : 0 ≤ b) (hb : b ≤ 9223372036854775807) :
    ∃ r, laws_szShortS.f (l.length + 1) l b = some r ∧ (r < 0 ∨ (0 ≤ r ∧ r ≤ b ∧ (l.length : Int) ≤ b ∧ ∀ x ∈ l, (x.f0.size : Int) ≤ b ∧ (x.f1.size : Int) ≤ b)) := by
  unfold laws_szShortS.f
  rw [wrap_id (by omega) (by omega)]
  by_cases hn : b - (l.length : Int) < 0
  · rw [if_pos hn]
    exact ⟨-1, rfl, Or.inl (by omega)⟩
  · rw [if_neg hn]
    let G : Nat → Int → Int := fun i x => (laws_szShort.f (rd_T50 l (i : Nat)).f0 (rd_T50 l (i : Nat)).f1 x).getD (-1)
    have hG : ∀ (i : Nat) (x : Int), i < l.length → 0 ≤ x → x ≤ b → laws_szShort.f (rd_T50 l (i : Nat)).f0 (rd_T50 l (i : Nat)).f1 x = some (G i x) ∧ (G i x < 0 ∨ (0 ≤ G i x ∧ G i x ≤ x ∧ G i x = x - (rd_T50 l (i : Nat)).f0.size - (rd_T50 l (i : Nat)).f1.size)) := by
      intro i x hi hx0 hx
      have hz := hs _ (List.getElem_mem hi)
      rw [← rdLSh_get _ _ hi] at hz
      obtain ⟨r, e, h⟩ := laws_szShort.val (rd_T50 l (i : Nat)) hz.1 hz.2 x hx0 (by omega)
      have : G i x = r := by show Option.getD _ _ = _; rw [e]; rfl
      rw [this]
      exact ⟨e, h⟩
    obtain ⟨r, h1, h2⟩ := scan_size (n := l.length) (b := b) (l := fun k i x => laws_szShortS.l0 k l x i) (g := G) (Q := fun i => ((rd_T50 l (i : Nat)).f0.size : Int) ≤ b ∧ ((rd_T50 l (i : Nat)).f1.size : Int) ≤ b)
      (fun k i x hi hx0 hx => by
        simp only [laws_szShortS.l0]
        rw [if_pos (by omega), if_pos (by omega), (hG i x hi hx0 hx).1, wrap_succ hi hl]
        simp only [Option.bind_some])
      (fun i x hi hx0 hx hg => by have := (hG i x hi hx0 hx).2; omega) (fun k x => by simp [laws_szShortS.l0]) (l.length + 1) (by omega) (b - l.length) (by omega) (by omega)
    refine ⟨r, h1, h2.imp id fun h => ⟨h.1, by omega, by omega, fun x hx => ?_⟩⟩
    obtain ⟨i, hi, rfl⟩ := List.getElem_of_mem hx
    have := h.2.2 i hi
    rw [rdLSh_get _ _ hi] at this
    exact this
theorem opens_LSh : Open.Opens Tryd.prog 50 k50 (fun x => x.f0.size ≤ 9223372036854775807 ∧ x.f1.size ≤ 9223372036854775807) :=
  Open.opens_struct2 (fun x : LSh => (x.f0, x.f1)) (fun a b => ⟨a, b⟩) (fun _ _ => rfl) Tryd.underlying50 rfl rfl (by kernel_rfl) (by kernel_rfl) (by kernel_rfl)
    (Open.opens_string Tryd.underlying9) (Open.opens_string Tryd.underlying9)
end Go.Proofs.YtiapaggkbhdnkaaDoor.Q
