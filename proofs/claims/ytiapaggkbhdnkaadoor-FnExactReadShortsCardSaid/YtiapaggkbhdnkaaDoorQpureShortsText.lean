/- The text of shorts: program and reference alike; the law ShortsText holds. -/
import Derived.Test.YtiapaggkbhdnkaaDoorQpureValidShorts
import Derived.Test.YtiapaggkbhdnkaaDoorQlibJ
import Derived.Test.YtiapaggkbhdnkaaDoorQimplShortsText
import Derived.Test.YtiapaggkbhdnkaaDoorQlawsFnExactShortsText
namespace Go.Proofs.YtiapaggkbhdnkaaDoor.Q
open Go.RowKit Go.Proofs.YtiapaggkbhdnkaaDoorW.PrintWords Go.Proofs.YtiapaggkbhdnkaaDoorW.PrintLast Go.Proofs.YtiapaggkbhdnkaaDoorW.PrintMore
open Go.Proofs.YtiapaggkbhdnkaaDoor.Pure
set_option linter.unusedVariables false

def blankB : ByteArray := ⟨#[32]⟩
def shTxt (x : ISh) : ByteArray := (x.f0 ++ (⟨#[61]⟩ : ByteArray)) ++ x.f1
theorem shTxt_size (x : ISh) : (shTxt x).size = x.f0.size + 1 + x.f1.size := by
  unfold shTxt
  rw [ByteArray.size_append, ByteArray.size_append]
  rfl
theorem sz1 (n : Nat) : (⟨#[UInt8.ofNat n]⟩ : ByteArray).size = 1 := rfl
def shText (l : List ISh) : ByteArray := joinB (l.map shTxt) blankB

theorem take_succ' {α : Type} (l : List α) (i : Nat) (h : i < l.length) : l.take (i + 1) = l.take i ++ [l[i]] := by
  rw [List.take_add_one, List.getElem?_eq_getElem h]; rfl

theorem joinB_le (l : List ByteArray) (M : Nat) (h : ∀ x ∈ l, x.size ≤ M) : (joinB l blankB).size ≤ l.length * (M + 1) := by
  have := joinB_size l blankB M h (by decide)
  unfold joinB
  show ((Lib.join _ _).toArray).size ≤ _
  simpa using this

theorem impl_ShortsText.l0_val (l : List ISh) (h6 : l.length ≤ 6) (hs : ∀ x ∈ l, x.f0.size ≤ 20 ∧ x.f1.size ≤ 20) (k : Nat) (hk : l.length < k) : impl_ShortsText.l0 k ([] : List ByteArray) l (l.length : Int) 0 = some (shText l) := by
  have := scan_inv (n := l.length) (M := 0) (l := fun k i (x : List ByteArray) => impl_ShortsText.l0 k x l (l.length : Int) i) (at_ := fun i => (l.take i).map shTxt) (r := shText l) (fun k i hi _ => ?_) (fun k _ => ?_) k (by omega)
  · simpa using this
  · simp only [impl_ShortsText.l0]
    have hz := hs _ (List.getElem_mem hi)
    have h1 : ((l.take i).map shTxt).length = i := by simp; omega
    have h2 := shTxt_size l[i]
    have h3 : (l[i].f0 ++ (⟨#[61]⟩ : ByteArray)).size = l[i].f0.size + 1 := by rw [ByteArray.size_append]; rfl
    rw [rdISh_get _ _ hi, if_pos (by omega), if_pos (by omega), if_pos (by omega), if_pos (by omega), if_pos (by omega), if_pos (by omega), wrap_succ hi (by omega), take_succ' l i hi, List.map_append]
    rfl
  · simp only [impl_ShortsText.l0]
    have hj : joinFine ((l.take l.length).map shTxt) := by
      refine ⟨by simp; omega, fun x hx => ?_⟩
      obtain ⟨y, hy, rfl⟩ := List.mem_map.1 hx
      have := hs y (List.mem_of_mem_take hy)
      rw [shTxt_size]; omega
    have hj2 : strings_Join.f ((l.take l.length).map shTxt) (⟨#[32]⟩ : ByteArray) = some (shText l) := by
      unfold strings_Join.f
      rw [if_pos ⟨hj, by decide⟩, List.take_length]
      rfl
    rw [if_neg (by omega), hj2]
    rfl

theorem joinB_snoc' (l : List ByteArray) (x : ByteArray) (h : l.length = 0) : joinB (l ++ [x]) blankB = joinB l blankB ++ x := by
  have : l = [] := List.length_eq_zero_iff.1 h
  subst this
  rw [List.nil_append, joinB_one, joinB_nil]
  exact (ByteArray.empty_append).symm

theorem spec_l02Text.val (l : List ISh) (h6 : l.length ≤ 6) (hs : ∀ x ∈ l, x.f0.size ≤ 20 ∧ x.f1.size ≤ 20) (k : Nat) (hk : l.length < k) : spec_l02Text.f k l = some (shText l) := by
  unfold spec_l02Text.f
  have := scan_inv (n := l.length) (M := 0) (l := fun k i (x : ByteArray) => spec_l02Text.l0 k l x i) (at_ := fun i => joinB ((l.take i).map shTxt) blankB) (r := shText l) (fun k i hi _ => ?_) (fun k _ => ?_) k (by omega)
  · simpa [joinB_nil] using this
  · simp only [spec_l02Text.l0]
    have hz := hs _ (List.getElem_mem hi)
    have h1 : ((l.take i).map shTxt).length = i := by simp; omega
    have h2 := shTxt_size l[i]
    have h3 : (l[i].f0 ++ (⟨#[61]⟩ : ByteArray)).size = l[i].f0.size + 1 := by rw [ByteArray.size_append]; rfl
    have h4 := joinB_le ((l.take i).map shTxt) 41 (fun x hx => by
      obtain ⟨y, hy, rfl⟩ := List.mem_map.1 hx
      have := hs y (List.mem_of_mem_take hy)
      rw [shTxt_size]; omega)
    rw [h1] at h4
    have h5 : (joinB ((l.take i).map shTxt) blankB ++ (⟨#[32]⟩ : ByteArray)).size = (joinB ((l.take i).map shTxt) blankB).size + 1 := by rw [ByteArray.size_append]; rfl
    have h7 : ((l[i].f0 ++ (⟨#[61]⟩ : ByteArray)) ++ l[i].f1).size = l[i].f0.size + 1 + l[i].f1.size := h2
    rw [rdISh_get _ _ hi, if_pos (by omega), h3, h5, h7]
    by_cases h0 : i = 0
    · rw [if_neg (by omega), if_pos (by omega), if_pos (by omega), if_pos (by omega), if_pos (by omega), wrap_succ hi (by omega), take_succ' l i hi, List.map_append, List.map_singleton, joinB_snoc' _ _ (by rw [h1]; exact h0)]
      rfl
    · rw [if_pos (by omega), if_pos (by omega), if_pos (by omega), if_pos (by omega), if_pos (by omega), if_pos (by omega), wrap_succ hi (by omega), take_succ' l i hi, List.map_append, List.map_singleton, joinB_snoc _ _ _ (by intro hn; rw [hn] at h1; simp at h1; omega)]
      rfl
  · simp only [spec_l02Text.l0]
    rw [if_neg (by omega), List.take_length]
    rfl

theorem shortsB_small (l : List ISh) (h : shortsB l = true) : l.length ≤ 6 ∧ ∀ x ∈ l, x.f0.size ≤ 20 ∧ x.f1.size ≤ 20 := by
  unfold shortsB at h
  rw [Bool.and_eq_true, decide_eq_true_iff, List.all_eq_true] at h
  refine ⟨by omega, fun x hx => ?_⟩
  obtain ⟨i, hi, rfl⟩ := List.getElem_of_mem hx
  have := h.1 i (List.mem_range.2 hi)
  unfold stSh okSh at this
  rw [rdISh_get _ _ hi] at this
  simp only [Bool.and_eq_true, decide_eq_true_iff] at this
  omega

theorem impl_ShortsText.val (l : List ISh) (hl : l.length ≤ 9223372036854775807) (k : Nat) (hk : l.length + 61 < k) : impl_ShortsText.f k l = some (if shortsB l = true then shText l else ⟨#[]⟩) := by
  unfold impl_ShortsText.f
  rw [impl_ValidShorts.val l hl k hk, Option.bind_some]
  by_cases h : shortsB l = true
  · obtain ⟨h6, hs⟩ := shortsB_small l h
    rw [if_pos h, if_pos h, impl_ShortsText.l0_val l h6 hs k (by omega)]
  · rw [if_neg h, if_neg h]
theorem spec_ShortsText.val (l : List ISh) (hl : l.length ≤ 4611686018427387900) (M : Nat) (hs : ∀ x ∈ l, x.f0.size ≤ M ∧ x.f1.size ≤ M) (hM : M ≤ 9223372036854775807) (k : Nat) (hk : 2 * (l.length + 1) + M + 4 ≤ k) : spec_ShortsText.f k l = some (if shortsB l = true then shText l else ⟨#[]⟩) := by
  unfold spec_ShortsText.f
  rw [spec_l02Shorts.val l hl M hs hM k hk, Option.bind_some]
  by_cases h : shortsB l = true
  · obtain ⟨h6, hs⟩ := shortsB_small l h
    rw [if_pos h, if_pos h, spec_l02Text.val l h6 hs k (by omega), Option.bind_some]
  · rw [if_neg h, if_neg h]

theorem laws_FnExactShortsText.holds (l : List LSh) (A : Option Addr) (c : Nat) (W : World) (hG : Glob W) (hr : Kd.C k50 W A l.length l) (hc : l.length ≤ c) (hs : ∀ x ∈ l, x.f0.size ≤ 9223372036854775807 ∧ x.f1.size ≤ 9223372036854775807) :
    Calls Tryd.prog 4 #[.slice A l.length c] W fun e w' => e = .returned (.bool true) ∧ Below W.heap.size W w' := by
  have hm := Kd.C_max hr
  obtain ⟨K, hK⟩ : ∃ K, K = l.length + 4000000 := ⟨_, rfl⟩
  refine laws_FnExactShortsText.calls (K + 1) A c l true W hG hr hc ?_
  obtain ⟨r, h1, h2⟩ := laws_szShortS.val l hm hs 1048576 (by omega) (by omega)
  unfold laws_FnExactShortsText.f
  rw [at_rounds (laws_szShortS.mono l 1048576) (by omega) h1]
  simp only [Option.bind_some]
  by_cases h : r < 0
  · rw [if_pos h]
  · rw [if_neg h]
    have hl : l.length ≤ 1048576 := by omega
    rw [at_rounds (laws_toShortS.mono l) (by omega) (laws_toShortS.val l (by omega))]
    simp only [Option.bind_some]
    have hml : (l.map toSh).length = l.length := by simp
    have h3 : ∀ x ∈ l, x.f0.size ≤ 1048576 ∧ x.f1.size ≤ 1048576 := fun x hx => by
      rcases h2 with h2 | h2
      · omega
      · have := h2.2.2.2 x hx; omega
    have e1 := spec_ShortsText.val (l.map toSh) (by omega) 1048576 (fun x hx => by obtain ⟨y, hy, rfl⟩ := List.mem_map.1 hx; exact h3 y hy) (by omega) (K + 1) (by omega)
    have e2 := impl_ShortsText.val (l.map toSh) (by omega) (K + 1) (by omega)
    have e3 : laws_eqShortS.f (K + 1) (l.map toSh) (l.map toSh) = some true := at_rounds (laws_eqShortS.mono (l.map toSh) (l.map toSh)) (by omega) (laws_eqShortS.val_self (l.map toSh) (by omega))
    simp only [e1, e2, e3, Option.bind_some]
    simp
end Go.Proofs.YtiapaggkbhdnkaaDoor.Q
