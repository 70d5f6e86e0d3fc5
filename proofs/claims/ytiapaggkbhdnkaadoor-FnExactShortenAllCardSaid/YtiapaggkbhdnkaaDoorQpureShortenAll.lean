/- The law ShortenAll holds. -/
import Derived.Test.YtiapaggkbhdnkaaDoorQpureShortsText
import Derived.Test.YtiapaggkbhdnkaaDoorQpureShorten
import Derived.Test.YtiapaggkbhdnkaaDoorQlawsFnExactShortenAll
namespace Go.Proofs.YtiapaggkbhdnkaaDoor.Q
open Go.RowKit Go.Proofs.YtiapaggkbhdnkaaDoorW.PrintWords Go.Proofs.YtiapaggkbhdnkaaDoorW.PrintLast Go.Proofs.YtiapaggkbhdnkaaDoorW.PrintMore
open Go.Proofs.YtiapaggkbhdnkaaDoor.Pure
set_option linter.unusedVariables false

def ansS (a : ByteArray) (l : List ISh) : ByteArray × Int × Int :=
  if textB a = true then (if shortsB l = true then (shortT l (wordsF a), ((whichTo l (wordsF a) (wordsF a).length).length : Int), 0) else (⟨#[]⟩, 0, 1)) else (⟨#[]⟩, 0, 1)
theorem wordsF_small {a : ByteArray} (h : textB a = true) : (wordsF a).length ≤ 61 := by
  have := fields_len a
  have := text_small h
  unfold wordsF
  rw [List.length_map]
  omega

theorem impl_ShortenAll.val (a : ByteArray) (l : List ISh) (hl : l.length ≤ 1048576) (k : Nat) (hk : l.length + 200 < k) : impl_ShortenAll.f k a l = some (ansS a l) := by
  obtain ⟨m, rfl⟩ : ∃ m, k = m + 1 := ⟨k - 1, by omega⟩
  unfold impl_ShortenAll.f ansS
  rw [impl_ValidText.valM a _ (by omega), Option.bind_some]
  by_cases ht : textB a = true
  · rw [if_pos ht, if_pos ht, impl_ValidShorts.val l (by omega) _ (by omega), Option.bind_some]
    have hw := wordsF_small ht
    have hz : ∀ x ∈ wordsF a, x.size ≤ 1048576 := fun x hx => by have := words_size a x hx; have := text_small ht; omega
    by_cases hs : shortsB l = true
    · obtain ⟨h6, h20⟩ := shortsB_small l hs
      rw [if_pos hs, hs, impl_ShortenAll.j0, if_neg (by decide), strings_Fields.val a ht, Option.bind_some, impl_withShorts.val _ l (by omega) (by omega) _ (by omega), Option.bind_some,
        impl_shortened.val _ l (by omega) (by omega) (fun x hx => by have := h20 x hx; omega) hz _ (by omega), Option.bind_some]
      unfold impl_size_int64.f
      rfl
    · rw [if_neg hs, Bool.eq_false_iff.2 hs, impl_ShortenAll.j0, if_pos (by decide)]
  · rw [if_neg ht, if_neg ht, impl_ShortenAll.j0, if_pos rfl]

theorem spec_ShortenAll.val (a : ByteArray) (ha : a.size ≤ 1048576) (l : List ISh) (hl : l.length ≤ 1048576) (hs : ∀ x ∈ l, x.f0.size ≤ 1048576 ∧ x.f1.size ≤ 1048576) (k : Nat) (hk : 4000000 ≤ k) : spec_ShortenAll.f k a l = some (ansS a l) := by
  unfold spec_ShortenAll.f spec_l02Asked.f ansS
  rw [at_rounds (spec_l01Text.mono a) (by omega) (spec_l01Text.val a (by omega)), Option.bind_some]
  by_cases ht : textB a = true
  · rw [if_pos ht, if_pos ht, spec_l02Shorts.val l (by omega) 1048576 hs (by omega) _ (by omega), Option.bind_some]
    have hw := wordsF_small ht
    have hz : ∀ x ∈ wordsF a, x.size ≤ 1048576 := fun x hx => by have := words_size a x hx; have := text_small ht; omega
    by_cases hb : shortsB l = true
    · obtain ⟨h6, h20⟩ := shortsB_small l hb
      have hf : joinFine (putL l (wordsF a) (whichTo l (wordsF a) (wordsF a).length)) := ⟨by rw [putL_len]; omega, putL_size l _ _ 1048576 (fun x hx => by have := h20 x hx; omega) hz⟩
      rw [if_pos hb, if_pos hb, Option.bind_some, if_pos rfl, spec_l01Words.val a ht _ (by omega), Option.bind_some, spec_l02Which.val _ l (by omega) (by omega) _ (by omega), Option.bind_some,
        spec_l02At.val _ l (by omega) (by omega) _ (by omega), Option.bind_some, spec_l01Joined.val _ hf _ (by rw [putL_len]; omega), Option.bind_some]
      rfl
    · rw [if_neg hb, if_neg hb, Option.bind_some, if_neg (by decide)]
  · rw [if_neg ht, if_neg ht, Option.bind_some, if_neg (by decide)]

theorem laws_FnExactShortenAll.holds (a : ByteArray) (l : List LSh) (A : Option Addr) (c : Nat) (W : World) (hG : GlobF W) (hr : Kd.C k50 W A l.length l) (hc : l.length ≤ c) (ha : a.size ≤ 9223372036854775807) (hs : ∀ x ∈ l, x.f0.size ≤ 9223372036854775807 ∧ x.f1.size ≤ 9223372036854775807) :
    Calls Tryd.prog 6 #[.string a, .slice A l.length c] W fun e w' => e = .returned (.bool true) ∧ Below W.heap.size W w' := by
  have hm := Kd.C_max hr
  obtain ⟨K, hK⟩ : ∃ K, K = l.length + 4000000 := ⟨_, rfl⟩
  refine laws_FnExactShortenAll.calls (K + 1) a A c l true W hG hr hc ?_
  obtain ⟨r, h1, h2⟩ := laws_szShortS.val l hm hs 1048576 (by omega) (by omega)
  unfold laws_FnExactShortenAll.f
  by_cases h0 : (a.size : Int) > 1048576
  · rw [if_pos h0]
  rw [if_neg h0, at_rounds (laws_szShortS.mono l 1048576) (by omega) h1]
  simp only [Option.bind_some]
  by_cases h : r < 0
  · rw [if_pos h]
  · rw [if_neg h]
    have hl : l.length ≤ 1048576 := by omega
    have eT : ∀ k, l.length < k → laws_toShortS.f k l = some (l.map toSh) := fun k hk => at_rounds (laws_toShortS.mono l) (by omega) (laws_toShortS.val l (by omega))
    rw [eT _ (by omega)]
    simp only [Option.bind_some]
    have hml : (l.map toSh).length = l.length := by simp
    have h3 : ∀ x ∈ l, x.f0.size ≤ 1048576 ∧ x.f1.size ≤ 1048576 := fun x hx => by
      rcases h2 with h2 | h2
      · omega
      · have := h2.2.2.2 x hx; omega
    have e1 := spec_ShortenAll.val a (by omega) (l.map toSh) (by omega) (fun x hx => by obtain ⟨y, hy, rfl⟩ := List.mem_map.1 hx; exact h3 y hy) (K + 1) (by omega)
    have e2 := impl_ShortenAll.val a (l.map toSh) (by omega) (K + 1) (by omega)
    have e3 : ∀ k, l.length < k → laws_eqShortS.f k (l.map toSh) (l.map toSh) = some true := fun k hk => at_rounds (laws_eqShortS.mono (l.map toSh) (l.map toSh)) (by omega) (laws_eqShortS.val_self (l.map toSh) (by omega))
    simp only [e1, e2, Option.bind_some, if_true]
    rw [laws_FnExactShortenAll.j0, if_neg (by simp), eT _ (by omega), Option.bind_some, e3 _ (by omega), Option.bind_some, if_pos rfl]
end Go.Proofs.YtiapaggkbhdnkaaDoor.Q
