/- What comes in, read as data, is of the kinds of the printer's words (whole numbers, bools, strings, structs, arrays, slices of such); no condition. -/
import Derived.Test.YtimkkjkgbbfgbaaGreatDoorWLess
import Derived.ProofKit
import Derived.OpenShut
import Derived.Deep.Slices
import Derived.Lib.SmallJoins
namespace Go.Proofs.YtimkkjkgbbfgbaaGreatDoor.Open
open Go.RowKit Go.Proofs.YtimkkjkgbbfgbaaGreatDoorW.PrintWords
open Go.ChangeShapes Go.WideShapes Go.ChangeAt Go.Deep Go.Joins
set_option linter.unusedVariables false

/-- Whatever reads as data of type t is of kind d, and its value meets G. -/
def Opens (P : Program) (t : TypeId) {α : Type} (d : Kd α) (G : α → Prop) : Prop :=
  ∀ {H : Type} (enc : TypeId × Value → H) (w : World) (base : Nat) (spare : Nat → Bool) (held : Bool) (fuel : Nat) (cs : List Value) (x : DataW H × List MemPlace),
    DataW.trod enc P w base spare held fuel t cs = some x → ∃ y : α, d.K w y cs ∧ G y

section
variable {P : Program} {t e : TypeId}
theorem opens_int {k : IntKind} (ht : P.underlying t = some (.int k)) : Opens P t (Kd.int k) (fun n => (Lit.int k n).wf = true) := by
  intro H enc w base spare held fuel cs x h
  obtain ⟨n, rfl, _, hw⟩ := DataW.trod_int ht h
  exact ⟨n, rfl, hw⟩
theorem opens_bool (ht : P.underlying t = some .bool) : Opens P t Kd.bool (fun _ => True) := by
  intro H enc w base spare held fuel cs x h
  obtain ⟨n, rfl, _⟩ := DataW.trod_bool ht h
  exact ⟨n, rfl, trivial⟩
theorem opens_string (ht : P.underlying t = some .string) : Opens P t Kd.string (fun s => s.size ≤ 9223372036854775807) := by
  intro H enc w base spare held fuel cs x h
  obtain ⟨n, rfl, _, hw⟩ := DataW.trod_string ht h
  exact ⟨n, rfl, hw⟩
theorem opens_slice {α : Type} [Inhabited α] {d : Kd α} {G : α → Prop} (ht : P.underlying t = some (.slice e)) (hc : P.cellsOf e = d.sz) (he : Opens P e d G) :
    Opens P t (Kd.slice e d) (fun xs => ∀ y ∈ xs, G y) := by
  intro H enc w base spare held fuel cs x h
  rcases open_slice ht h with ⟨rfl, _⟩ | ⟨a, len, cap, m, n, D, Pl, rfl, _, hl, hm, hmm, _, hx⟩
  · exact ⟨[], ⟨none, 0, rfl, Nat.le_refl _, Kd.C_nil _ _⟩, fun y hy => by cases hy⟩
  · have hlm : len ≤ m := by rw [hmm]; split <;> omega
    obtain ⟨Y, hY⟩ := choose_lt (α := α) (n := len) (p := fun i y => ∃ cs', w.cells? base (a.add (i * P.cellsOf e)) (P.cellsOf e) = some cs' ∧ d.K w y cs' ∧ G y) (fun i hi => by
      obtain ⟨cs', h1, h2⟩ := hx i (by omega)
      obtain ⟨y, h3, h4⟩ := he enc w base spare held n cs' _ h2
      exact ⟨y, cs', h1, h3, h4⟩)
    have hlen : ((List.range len).map Y).length = len := by simp
    obtain ⟨C, hC⟩ := choose_lt (α := List Value) (n := len) (p := fun i c => w.cells? base (a.add (i * P.cellsOf e)) (P.cellsOf e) = some c ∧ d.K w (Y i) c ∧ G (Y i)) (fun i hi => hY i hi)
    refine ⟨(List.range len).map Y, ⟨some a, cap, by rw [hlen], by rw [hlen]; exact hl, ?_⟩, ?_⟩
    · rw [hlen]
      refine ⟨hlen, by unfold maxLen at hm; omega, fun h0 => ⟨a, rfl, ?_⟩⟩
      intro j p hp
      rw [List.getElem?_map] at hp
      obtain ⟨j', hj', rfl⟩ := Option.map_eq_some_iff.1 hp
      obtain ⟨hjl, rfl⟩ := List.getElem?_eq_some_iff.1 hj'
      rw [List.length_range] at hjl
      simp only [List.getElem_range] at *
      obtain ⟨h1, h2, _⟩ := hC j hjl
      obtain ⟨_, h4, h5⟩ := World.cells?_some h1
      refine ⟨C j, h4.trans hc, h2, fun i u hu => ?_⟩
      have hi : i < P.cellsOf e := by rw [← h4]; exact (List.getElem?_eq_some_iff.1 hu).1
      rw [← hu, ← h5 i hi, ← hc, Deep.add_add]
    · intro y hy
      obtain ⟨i, hi, rfl⟩ := List.mem_map.1 hy
      exact (hC i (List.mem_range.1 hi)).2.2
theorem cut2 {α : Type} (l : List α) (a b : Nat) (h : l.length = a + b) : l = (l.drop 0).take a ++ (l.drop a).take b := by
  rw [List.drop_zero, show (l.drop a).take b = l.drop a from List.take_of_length_le (by rw [List.length_drop]; omega), List.take_append_drop]
theorem cut3 {α : Type} (l : List α) (a b c : Nat) (h : l.length = a + b + c) : l = (l.drop 0).take a ++ ((l.drop a).take b ++ (l.drop (a + b)).take c) := by
  have h2 := cut2 (l.drop a) b c (by rw [List.length_drop]; omega)
  rw [List.drop_zero, List.drop_drop] at h2
  rw [List.drop_zero, ← h2, List.take_append_drop]
theorem cut4 {α : Type} (l : List α) (a b c d : Nat) (h : l.length = a + b + c + d) : l = (l.drop 0).take a ++ ((l.drop a).take b ++ ((l.drop (a + b)).take c ++ (l.drop (a + b + c)).take d)) := by
  have h2 := cut3 (l.drop a) b c d (by rw [List.length_drop]; omega)
  rw [List.drop_zero, List.drop_drop, List.drop_drop, ← Nat.add_assoc] at h2
  rw [List.drop_zero, ← h2, List.take_append_drop]
theorem opens_struct2 {γ α0 α1 : Type} {d0 : Kd α0} {d1 : Kd α1} {G0 : α0 → Prop} {G1 : α1 → Prop} (f : γ → α0 × α1) (g : α0 → α1 → γ) (hfg : ∀ a b, f (g a b) = (a, b))
    {f0 f1 : Field} (ht : P.underlying t = some (.struct #[f0, f1])) (o0 : f0.offset = 0) (o1 : f1.offset = d0.sz) (c0 : P.cellsOf f0.type = d0.sz) (c1 : P.cellsOf f1.type = d1.sz) (hc : P.cellsOf t = d0.sz + d1.sz)
    (h0 : Opens P f0.type d0 G0) (h1 : Opens P f1.type d1 G1) : Opens P t (Kd.iso (Kd.pair d0 d1) f) (fun y => G0 (f y).1 ∧ G1 (f y).2) := by
  intro H enc w base spare held fuel cs x h
  obtain ⟨y0, y1, n, _, hl, t0, t1⟩ := trod_struct2 ht h
  rw [o0, c0] at t0; rw [o1, c1] at t1
  obtain ⟨a, ka, ga⟩ := h0 enc w base spare held n _ _ t0
  obtain ⟨b, kb, gb⟩ := h1 enc w base spare held n _ _ t1
  refine ⟨g a b, ?_, by simp only [hfg]; exact ⟨ga, gb⟩⟩
  show ∃ c0 c1, _
  rw [hfg]
  exact ⟨_, _, cut2 cs _ _ (hl.trans hc), ka, kb⟩
theorem opens_struct3 {γ α0 α1 α2 : Type} {d0 : Kd α0} {d1 : Kd α1} {d2 : Kd α2} {G0 : α0 → Prop} {G1 : α1 → Prop} {G2 : α2 → Prop} (f : γ → α0 × α1 × α2) (g : α0 → α1 → α2 → γ) (hfg : ∀ a b c, f (g a b c) = (a, b, c))
    {f0 f1 f2 : Field} (ht : P.underlying t = some (.struct #[f0, f1, f2])) (o0 : f0.offset = 0) (o1 : f1.offset = d0.sz) (o2 : f2.offset = d0.sz + d1.sz) (c0 : P.cellsOf f0.type = d0.sz) (c1 : P.cellsOf f1.type = d1.sz) (c2 : P.cellsOf f2.type = d2.sz)
    (hc : P.cellsOf t = d0.sz + d1.sz + d2.sz)
    (h0 : Opens P f0.type d0 G0) (h1 : Opens P f1.type d1 G1) (h2 : Opens P f2.type d2 G2) : Opens P t (Kd.iso (Kd.pair d0 (Kd.pair d1 d2)) f) (fun y => G0 (f y).1 ∧ G1 (f y).2.1 ∧ G2 (f y).2.2) := by
  intro H enc w base spare held fuel cs x h
  obtain ⟨y0, y1, y2, n, _, hl, t0, t1, t2⟩ := trod_struct3 ht h
  rw [o0, c0] at t0; rw [o1, c1] at t1; rw [o2, c2] at t2
  obtain ⟨a, ka, ga⟩ := h0 enc w base spare held n _ _ t0
  obtain ⟨b, kb, gb⟩ := h1 enc w base spare held n _ _ t1
  obtain ⟨c, kc, gc⟩ := h2 enc w base spare held n _ _ t2
  refine ⟨g a b c, ?_, by simp only [hfg]; exact ⟨ga, gb, gc⟩⟩
  show ∃ c0 c1, _
  rw [hfg]
  exact ⟨_, _, cut3 cs _ _ _ (hl.trans hc), ka, _, _, rfl, kb, kc⟩
/-- A struct that comes in by value: its cells are of its kind. -/
theorem open_val {H : Type} {enc : TypeId × Value → H} {α : Type} {d : Kd α} {G : α → Prop} (ho : Opens P t d G) {W : World} {base : Nat} {spare : Nat → Bool} {held : Bool} {v : Value} {y : DataW H} {p : List MemPlace}
    (h : DataW.Trod enc P W base spare held t v y p) : ∃ a : α, d.K W a v.cells.toList ∧ G a := by
  obtain ⟨fuel, hf⟩ := h
  exact ho enc W base spare held fuel _ _ hf
theorem open_agg {H : Type} {enc : TypeId × Value → H} {α : Type} {d : Kd α} {G : α → Prop} (ho : Opens P t d G) {fs : Array Field} (ht : P.underlying t = some (.struct fs)) {r : Reach} {b0 : Nat} {W : World} {base : Nat} {spare : Nat → Bool} {held : Bool} {v : Value} {y : DataW H} {p : List MemPlace}
    (hv : Value.okWide P W r b0 t v) (h : DataW.Trod enc P W base spare held t v y p) : ∃ (a : α) (cs : List Value), v = .agg cs.toArray ∧ d.K W a cs ∧ G a := by
  obtain ⟨cs, rfl, _⟩ := okWide_struct ht hv
  obtain ⟨a, hk, hg⟩ := open_val ho h
  exact ⟨a, cs.toList, by simp, by simpa [Value.cells] using hk, hg⟩
/-- A slice that comes in. -/
theorem open_row {H : Type} {enc : TypeId × Value → H} {α : Type} {d : Kd α} {G : List α → Prop} (ho : Opens P t (Kd.slice e d) G) (ht : P.underlying t = some (.slice e)) {r : Reach} {b0 : Nat} {W : World} {base : Nat} {spare : Nat → Bool} {held : Bool} {v : Value} {y : DataW H} {p : List MemPlace}
    (hv : Value.okWide P W r b0 t v) (h : DataW.Trod enc P W base spare held t v y p) : ∃ (xs : List α) (A : Option Addr) (c : Nat), v = .slice A xs.length c ∧ xs.length ≤ c ∧ d.C W A xs.length xs ∧ G xs := by
  obtain ⟨a0, len, cap, rfl⟩ := okWide_slice ht hv
  obtain ⟨xs, ⟨A, c, hk, hl, hc⟩, hg⟩ := open_val ho h
  simp [Value.cells] at hk
  obtain ⟨rfl, rfl, rfl⟩ := hk
  exact ⟨xs, _, _, rfl, hl, hc, hg⟩
end
end Go.Proofs.YtimkkjkgbbfgbaaGreatDoor.Open
