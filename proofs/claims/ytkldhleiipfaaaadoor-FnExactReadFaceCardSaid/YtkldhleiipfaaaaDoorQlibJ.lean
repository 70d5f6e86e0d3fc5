/- strings.Join in the printed form, out of the shelf. -/
import Derived.Test.YtkldhleiipfaaaaDoorQ0
import Derived.Test.YtkldhleiipfaaaaDoorShelfJ
import Derived.Test.YtkldhleiipfaaaaDoorPure2
import Derived.DataReads
namespace Go.Proofs.YtkldhleiipfaaaaDoor.Q
open Go.RowKit Go.Proofs.YtkldhleiipfaaaaDoorW.PrintWords Go.Proofs.YtkldhleiipfaaaaDoorW.PrintLast Go.Proofs.YtkldhleiipfaaaaDoorW.PrintMore
set_option linter.unusedVariables false

/-- The texts, laid one behind the other with a separator between them. -/
def joinB (l : List ByteArray) (sep : ByteArray) : ByteArray := ⟨(Lib.join (l.map (·.data.toList)) sep.data.toList).toArray⟩
theorem joinB_nil (sep : ByteArray) : joinB [] sep = ⟨#[]⟩ := rfl
theorem app_list (a b : ByteArray) : a ++ b = ⟨(a.data.toList ++ b.data.toList).toArray⟩ := by
  apply ByteArray.ext
  rw [ByteArray.data_append]
  apply Array.toList_inj.1
  simp
theorem joinB_one (x sep : ByteArray) : joinB [x] sep = x := by
  unfold joinB
  rw [List.map_singleton, Lib.join_one]
theorem joinB_snoc (l : List ByteArray) (x sep : ByteArray) (h : l ≠ []) : joinB (l ++ [x]) sep = joinB l sep ++ sep ++ x := by
  obtain ⟨y, r, rfl⟩ : ∃ y r, l = y :: r := by cases l with | nil => exact absurd rfl h | cons y r => exact ⟨y, r, rfl⟩
  rw [app_list, app_list]
  unfold joinB
  rw [List.cons_append, List.map_cons, List.map_cons, Lib.join_cons, Lib.join_cons]
  simp [Lib.joinTail]
theorem lens_le (M : Nat) : ∀ (l : List (List UInt8)), (∀ x ∈ l, x.length ≤ M) → Lib.lens l ≤ l.length * M := by
  intro l
  induction l with
  | nil => intro _; simp [Lib.lens]
  | cons x l ih =>
    intro h
    have h1 := ih (fun y hy => h y (List.mem_cons_of_mem _ hy))
    have h2 := h x (List.mem_cons_self ..)
    simp only [Lib.lens, List.map_cons, List.sum_cons, List.length_cons, Nat.add_mul, Nat.one_mul] at h1 ⊢
    omega
theorem joinB_size (l : List ByteArray) (sep : ByteArray) (M : Nat) (h : ∀ x ∈ l, x.size ≤ M) (hs : sep.size ≤ 1) : (Lib.join (l.map (·.data.toList)) sep.data.toList).length ≤ l.length * (M + 1) := by
  cases l with
  | nil => simp [Lib.join_nil]
  | cons x r =>
    rw [List.map_cons, Lib.join_cons, List.length_append, Lib.joinTail_length, data_length]
    have h1 := h x (List.mem_cons_self ..)
    have h2 := lens_le M (r.map (·.data.toList)) (fun y hy => by
      obtain ⟨z, hz, rfl⟩ := List.mem_map.1 hy
      rw [data_length]
      exact h z (List.mem_cons_of_mem _ hz))
    rw [List.length_map] at h2 ⊢
    rw [data_length]
    have h3 : sep.size * r.length ≤ 1 * r.length := Nat.mul_le_mul_right _ hs
    have h4 : (x :: r).length * (M + 1) = r.length * M + r.length + M + 1 := by rw [List.length_cons, Nat.add_mul, Nat.mul_add]; omega
    omega
def joinFine (l : List ByteArray) : Prop := l.length ≤ 1048576 ∧ ∀ x ∈ l, x.size ≤ 1048576
theorem strings_Join.callsN (A0 : Option Addr) (c0 : Nat) (l0 : List ByteArray) (a1 : ByteArray) (w : World) (hr0 : Kd.C Kd.string w A0 l0.length l0) (hc0 : l0.length ≤ c0) (hf : joinFine l0) (hs : a1.size ≤ 1) :
    Calls Tryd.prog 22 #[.slice A0 l0.length c0, .string a1] w fun e w' => e = .returned (.string (joinB l0 a1)) ∧ Below w.heap.size w w' := by
  by_cases h0 : l0.length = 0
  · have : l0 = [] := List.length_eq_zero_iff.1 h0
    subst this
    refine (Tryd.strings_Join_none A0 c0 a1 w).mono ?_
    rintro e w' ⟨rfl, rfl⟩
    exact ⟨rfl, Below.refl _ _⟩
  · obtain ⟨⟨b, o, sp⟩, rfl, hx⟩ := Kd.at_string hr0 0 (by omega) (by omega)
    have hsp := World.cell?_spot hx
    have hsp2 : sp = none := by simpa [Addr.add] using hsp
    subst hsp2
    have hcells : ∀ (j : Nat) x, l0[j]? = some x → w.cell? ⟨b, o + j, none⟩ = some (.string x) := by
      intro j x hj
      obtain ⟨hlt, rfl⟩ := List.getElem?_eq_some_iff.1 hj
      obtain ⟨ad2, e2, hy⟩ := Kd.at_string hr0 (j : Int) (by omega) (by omega)
      cases e2
      rw [Int.toNat_natCast, Pure.rdOf_get _ _ _ hlt] at hy
      rw [← hy]
      congr 1
      unfold Addr.add
      by_cases hj0 : j = 0
      · rw [if_pos hj0, hj0]
        rfl
      · rw [if_neg hj0]
    have hsz := joinB_size l0 a1 1048576 hf.2 hs
    have hmul : l0.length * (1048576 + 1) ≤ 1048576 * (1048576 + 1) := Nat.mul_le_mul_right _ hf.1
    have hbk : b < w.heap.size := by
      have := World.block_lt_of_cell? w _ (hcells 0 l0[0] (List.getElem?_eq_getElem (by omega)))
      exact this
    exact Tryd.strings_Join b o c0 l0 a1 w hcells hbk (by have := hf.1; omega) hc0 (by omega)
instance (l : List ByteArray) : Decidable (joinFine l) := by unfold joinFine; exact inferInstance
def strings_Join.f (l : List ByteArray) (sep : ByteArray) : Option ByteArray := if joinFine l ∧ sep.size ≤ 1 then some (joinB l sep) else none
theorem strings_Join.calls (A0 : Option Addr) (c0 : Nat) (l0 : List ByteArray) (a1 : ByteArray) (r : ByteArray) (w : World) (hr0 : Kd.C Kd.string w A0 l0.length l0) (hc0 : l0.length ≤ c0) (h : strings_Join.f l0 a1 = some r) :
    Calls Tryd.prog 22 #[.slice A0 l0.length c0, .string a1] w fun e w' => e = .returned (.string r) ∧ Below w.heap.size w w' := by
  unfold strings_Join.f at h
  split at h
  · rename_i hc
    cases h
    exact strings_Join.callsN A0 c0 l0 a1 w hr0 hc0 hc.1 hc.2
  · cases h
end Go.Proofs.YtkldhleiipfaaaaDoor.Q
