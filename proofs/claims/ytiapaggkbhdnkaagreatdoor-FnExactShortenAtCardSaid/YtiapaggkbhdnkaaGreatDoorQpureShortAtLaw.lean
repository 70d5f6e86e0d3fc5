/- The law ShortenAt holds. -/
import Derived.Test.YtiapaggkbhdnkaaGreatDoorQhandShortAt
import Derived.Test.YtiapaggkbhdnkaaGreatDoorQlawsFnExactShortenAt
namespace Go.Proofs.YtiapaggkbhdnkaaGreatDoor.Q
open Go.RowKit Go.Proofs.YtiapaggkbhdnkaaGreatDoorW.PrintWords Go.Proofs.YtiapaggkbhdnkaaGreatDoorW.PrintLast Go.Proofs.YtiapaggkbhdnkaaGreatDoorW.PrintMore
open Go.Proofs.YtiapaggkbhdnkaaGreatDoor.Pure
set_option linter.unusedVariables false

theorem laws_toInt64S.val (l : List Int) (hl : l.length ≤ 1048576) (k : Nat) (hk : l.length < k) : laws_toInt64S.f k l = some l := by
  unfold laws_toInt64S.f
  rw [if_pos (by omega), if_pos (by omega)]
  refine scan_copy (n := l.length) (l := fun k i x => laws_toInt64S.l0 k l x i) (by simp) (fun k i x hi hx => ?_) (fun k x hx => ?_) _ (by omega) _ (by simp)
  · simp only [laws_toInt64S.l0]
    rw [if_pos (by omega), if_pos (by omega), if_pos (by omega), wrap_succ hi (by omega), rd_get _ _ hi, Int.toNat_natCast]
  · simp [laws_toInt64S.l0]
theorem laws_eqInt64S.refl (l : List Int) (hl : l.length ≤ 1048576) (k : Nat) (hk : l.length < k) : laws_eqInt64S.f k l l = some true := by
  unfold laws_eqInt64S.f
  rw [if_pos rfl]
  have := scan_all (n := l.length) (l := fun k i => laws_eqInt64S.l0 k l l i) (p := fun i => true) (b := true) (fun k i hi => ?_) (fun k => ?_) k hk
  · rw [show (List.range l.length).all (fun _ => true) = true from List.all_eq_true.2 (fun _ _ => rfl)] at this
    exact this
  · simp only [laws_eqInt64S.l0]
    rw [if_pos (by omega), if_pos (by omega), if_pos (by omega), wrap_succ hi (by omega)]
  · simp [laws_eqInt64S.l0]

theorem spec_l00Has.val (l : List Int) (a : Int) (hl : l.length ≤ 1048576) (k : Nat) (hk : l.length < k) : spec_l00Has.f k l a = some (l.contains a) := by
  have key : ∀ d i k, i + d = l.length → d < k → spec_l00Has.l0 k l a (i : Nat) = some ((l.drop i).contains a) := by
    intro d
    induction d with
    | zero =>
      intro i k hi hk
      obtain ⟨k, rfl⟩ : ∃ m, k = m + 1 := ⟨k - 1, by omega⟩
      obtain rfl : i = l.length := by omega
      rw [spec_l00Has.l0, if_neg (by omega), List.drop_length]
      rfl
    | succ d ih =>
      intro i k hi hk
      obtain ⟨k, rfl⟩ : ∃ m, k = m + 1 := ⟨k - 1, by omega⟩
      have hlt : i < l.length := by omega
      rw [spec_l00Has.l0, if_pos (by omega), if_pos (by omega), rd_get _ _ hlt, wrap_succ hlt (by omega), List.drop_eq_getElem_cons hlt, List.contains_cons, ih (i + 1) k (by omega) (by omega)]
      by_cases h : l[i] = a
      · rw [if_pos h, h]
        simp
      · rw [if_neg h, beq_eq_false_iff_ne.2 (fun e => h e.symm), Bool.false_or]
  have := key l.length 0 k (by omega) hk
  unfold spec_l00Has.f
  simpa using this

def dupAt (l : List Int) (i : Nat) : Bool := (l.take i).contains (l.getD i 0)
theorem dup_any (l : List Int) : (List.range' 0 l.length).any (dupAt l) = !decide l.Nodup := by
  rw [Bool.eq_iff_iff, List.any_eq_true, Bool.not_eq_true', decide_eq_false_iff_not, ← back_nodup]
  constructor
  · rintro ⟨i, hi, h⟩ hn
    have hi' : i < l.length := by simpa [List.mem_range'] using hi
    refine hn i hi' ?_
    unfold dupAt at h
    rw [getD_lt hi'] at h
    exact List.contains_iff_mem.1 h
  · intro h
    apply Classical.byContradiction
    intro hn
    refine h (fun i hi hm => hn ⟨i, by simpa [List.mem_range'] using hi, ?_⟩)
    unfold dupAt
    rw [getD_lt hi]
    exact List.contains_iff_mem.2 hm

theorem spec_ShortenAt.val (a : ByteArray) (ha : a.size ≤ 1048576) (l : List ISh) (hl : l.length ≤ 1048576) (hs : ∀ x ∈ l, x.f0.size ≤ 1048576 ∧ x.f1.size ≤ 1048576) (ns : List Int) (hn : ns.length ≤ 1048576) (k : Nat) (hk : 12000000 ≤ k) : spec_ShortenAt.f k a l ns = some (ansT a l ns) := by
  unfold spec_ShortenAt.f spec_l02Asked.f ansT
  rw [at_rounds (spec_l01Text.mono a) (by omega) (spec_l01Text.val a (by omega)), Option.bind_some]
  by_cases ht : textB a = true
  rotate_left
  · rw [if_neg ht, if_neg ht, Option.bind_some, if_neg (by decide)]
  rw [if_pos ht, if_pos ht, spec_l02Shorts.val l (by omega) 1048576 hs (by omega) _ (by omega), Option.bind_some]
  by_cases hb : shortsB l = true
  rotate_left
  · rw [if_neg hb, if_neg hb, Option.bind_some, if_neg (by decide)]
  have hw := wordsF_small ht
  have hz : ∀ x ∈ wordsF a, x.size ≤ 1048576 := fun x hx => by have := words_size a x hx; have := text_small ht; omega
  obtain ⟨h6, h20⟩ := shortsB_small l hb
  rw [if_pos hb, if_pos hb, Option.bind_some, if_pos rfl, spec_l01Words.val a ht _ (by omega), Option.bind_some]
  generalize wordsF a = ws at hw hz
  -- the third loop
  have key2 : ns.any (outOf ws.length) = false → ∀ d i k, i + d = ns.length → 3000000 + d < k → spec_ShortenAt.l2 k l ns ws (i : Nat) = some (if (ns.drop i).any (bareAt l ws) = true then (⟨#[]⟩, 6) else if ns.any (bareAt l ws) = true then (⟨#[]⟩, 6) else (joinB (putL l ws ns) spB, 0)) ∨ ∃ j, j < i ∧ bareAt l ws (ns.getD j 0) = true := by
    intro hout d
    have hin : ∀ x ∈ ns, 0 ≤ x ∧ x < (ws.length : Int) := fun x hx => by
      have h1 := List.any_eq_false.1 hout x hx
      unfold outOf at h1
      simp only [Bool.not_eq_true, Bool.not_eq_false', Bool.and_eq_true, decide_eq_true_iff] at h1
      omega
    induction d with
    | zero =>
      intro i k hi hk
      obtain ⟨k, rfl⟩ : ∃ m, k = m + 1 := ⟨k - 1, by omega⟩
      obtain rfl : i = ns.length := by omega
      by_cases hbare : ns.any (bareAt l ws) = true
      · right
        obtain ⟨x, hx, h1⟩ := List.any_eq_true.1 hbare
        obtain ⟨j, hj, rfl⟩ := List.getElem_of_mem hx
        exact ⟨j, hj, by rw [getD_lt hj]; exact h1⟩
      · left
        have hm : ∀ x ∈ ns, ∃ j : Nat, x = j ∧ j < ws.length ∧ hasAt l ws j = true := fun x hx => by
          have h1 := hin x hx
          refine ⟨x.toNat, by omega, by omega, ?_⟩
          have h2 : ¬ bareAt l ws x = true := fun h => hbare (List.any_eq_true.2 ⟨x, hx, h⟩)
          unfold bareAt at h2
          rw [Bool.not_eq_true, Bool.not_eq_false'] at h2
          unfold hasAt
          rw [show ((x.toNat : Nat) : Int) = x by omega]
          exact h2
        have hf : joinFine (putL l ws ns) := ⟨by rw [putL_len]; omega, putL_size l _ _ 1048576 (fun x hx => by have := h20 x hx; omega) hz⟩
        rw [spec_ShortenAt.l2, if_neg (by omega), spec_l02At.valG ws l ns (by omega) (by omega) hn hm k (by omega), Option.bind_some, spec_l01Joined.val _ hf _ (by rw [putL_len]; omega), Option.bind_some, List.drop_length, if_neg (by simp), if_neg hbare]
    | succ d ih =>
      intro i k hi hk
      obtain ⟨k, rfl⟩ : ∃ m, k = m + 1 := ⟨k - 1, by omega⟩
      have hlt : i < ns.length := by omega
      have h1 := hin _ (List.getElem_mem hlt)
      rw [spec_ShortenAt.l2, if_pos (by omega), if_pos (by omega), rd_get _ _ hlt, if_pos (by omega), if_pos (by omega), spec_l02Of.val l _ (by omega) k (by omega), Option.bind_some, wrap_succ hlt (by omega), List.drop_eq_getElem_cons hlt, List.any_cons]
      cases hq : (ofL l (rdOf ByteArray.empty ws ns[i])).2 with
      | false =>
        left
        have : bareAt l ws ns[i] = true := by unfold bareAt; rw [hq]; rfl
        rw [if_neg (by simp), this, Bool.true_or, if_pos rfl]
      | true =>
        have hb2 : bareAt l ws ns[i] = false := by unfold bareAt; rw [hq]; rfl
        rw [if_pos rfl, hb2, Bool.false_or]
        rcases ih (i + 1) k (by omega) (by omega) with h2 | ⟨j, hj, h2⟩
        · left; exact h2
        · right
          by_cases e : j = i
          · subst e
            rw [getD_lt hlt, hb2] at h2
            cases h2
          · exact ⟨j, by omega, h2⟩
  have key2' : ns.any (outOf ws.length) = false → ∀ k, 5000000 < k → spec_ShortenAt.l2 k l ns ws 0 = some (if ns.any (bareAt l ws) = true then (⟨#[]⟩, 6) else (joinB (putL l ws ns) spB, 0)) := by
    intro hout k hk
    rcases key2 hout ns.length 0 k (by omega) (by omega) with h | ⟨j, hj, _⟩
    · rw [List.drop_zero] at h
      rw [show spec_ShortenAt.l2 k l ns ws 0 = _ from h]
      by_cases hbare : ns.any (bareAt l ws) = true
      · rw [if_pos hbare, if_pos hbare]
      · rw [if_neg hbare]
    · omega
  -- the second loop
  have key1 : ns.any (outOf ws.length) = false → ∀ d i k, i + d = ns.length → 6200000 + d < k → spec_ShortenAt.l1 k l ns ws (i : Nat) = some (if (List.range' i d).any (dupAt ns) = true then (⟨#[]⟩, 4) else if ns.any (bareAt l ws) = true then (⟨#[]⟩, 6) else (joinB (putL l ws ns) spB, 0)) := by
    intro hout d
    induction d with
    | zero =>
      intro i k hi hk
      obtain ⟨k, rfl⟩ : ∃ m, k = m + 1 := ⟨k - 1, by omega⟩
      rw [spec_ShortenAt.l1, if_neg (by omega), key2' hout k (by omega)]
      rfl
    | succ d ih =>
      intro i k hi hk
      obtain ⟨k, rfl⟩ : ∃ m, k = m + 1 := ⟨k - 1, by omega⟩
      have hlt : i < ns.length := by omega
      rw [spec_ShortenAt.l1, if_pos (by omega), if_pos (by omega), if_pos (by omega), rd_get _ _ hlt, Int.toNat_natCast, spec_l00Has.val _ _ (by rw [List.length_take]; omega) k (by rw [List.length_take]; omega), Option.bind_some, wrap_succ hlt (by omega), List.range'_succ, List.any_cons]
      have hd : dupAt ns i = (ns.take i).contains ns[i] := by unfold dupAt; rw [getD_lt hlt]
      rw [hd]
      cases (ns.take i).contains ns[i] with
      | true => rw [if_pos rfl, Bool.true_or, if_pos rfl]
      | false => rw [if_neg (by simp), Bool.false_or, ih (i + 1) k (by omega) (by omega)]
  -- the first loop
  have key0 : ∀ d i k, i + d = ns.length → 8000000 + d < k → (ns.take i).any (outOf ws.length) = false → spec_ShortenAt.l0 k l ns ws (i : Nat) = some (if ns.any (outOf ws.length) = true then (⟨#[]⟩, 2) else (if ns.Nodup then (if ns.any (bareAt l ws) = true then (⟨#[]⟩, 6) else (joinB (putL l ws ns) spB, 0)) else (⟨#[]⟩, 4))) := by
    intro d
    induction d with
    | zero =>
      intro i k hi hk hno
      obtain ⟨k, rfl⟩ : ∃ m, k = m + 1 := ⟨k - 1, by omega⟩
      obtain rfl : i = ns.length := by omega
      rw [List.take_length] at hno
      have h1 := key1 hno ns.length 0 k (by omega) (by omega)
      rw [dup_any] at h1
      rw [spec_ShortenAt.l0, if_neg (by omega), hno, if_neg Bool.false_ne_true, show spec_ShortenAt.l1 k l ns ws 0 = _ from h1]
      by_cases hd : ns.Nodup
      · rw [if_pos hd, decide_eq_true hd, if_neg (by simp)]
      · rw [if_neg hd, decide_eq_false hd, if_pos (by simp)]
    | succ d ih =>
      intro i k hi hk hno
      obtain ⟨k, rfl⟩ : ∃ m, k = m + 1 := ⟨k - 1, by omega⟩
      have hlt : i < ns.length := by omega
      have hb1 : spec_l00In.f ns[i] 0 (wrap64 ((ws.length : Int) - 1)) = some (!outOf ws.length ns[i]) := by
        unfold spec_l00In.f outOf
        rw [wrap_id (by omega) (by omega), Bool.not_not]
        by_cases h : ns[i] ≥ 0
        · rw [if_pos h, decide_eq_true (show (0 : Int) ≤ ns[i] from h), Bool.true_and]
        · rw [if_neg h, decide_eq_false (show ¬ (0 : Int) ≤ ns[i] from h), Bool.false_and]
      rw [spec_ShortenAt.l0, if_pos (by omega), if_pos (by omega), rd_get _ _ hlt, hb1, Option.bind_some, wrap_succ hlt (by omega)]
      cases hq : outOf ws.length ns[i] with
      | true =>
        have hany : ns.any (outOf ws.length) = true := List.any_eq_true.2 ⟨_, List.getElem_mem hlt, hq⟩
        rw [if_neg (by simp), hany, if_pos rfl]
      | false =>
        rw [if_pos (by simp), ih (i + 1) k (by omega) (by omega) (by rw [List.take_succ_eq_append_getElem hlt, List.any_append, hno]; simp [hq])]
  exact key0 ns.length 0 k (by omega) (by omega) (by simp)

theorem laws_FnExactShortenAt.holds (a : ByteArray) (l : List LSh) (A : Option Addr) (c : Nat) (ns : List Int) (B : Option Addr) (d : Nat) (W : World) (hG : GlobF W) (hr : Kd.C k35 W A l.length l) (hc : l.length ≤ c) (hr2 : Kd.C (Kd.int .i64) W B ns.length ns) (hc2 : ns.length ≤ d) (ha : a.size ≤ 9223372036854775807) (hs : ∀ x ∈ l, x.f0.size ≤ 9223372036854775807 ∧ x.f1.size ≤ 9223372036854775807) :
    Calls Tryz.prog 3 #[.string a, .slice A l.length c, .slice B ns.length d] W fun e w' => e = .returned (.bool true) ∧ Below W.heap.size W w' := by
  have hm := Kd.C_max hr
  obtain ⟨K, hK⟩ : ∃ K, K = l.length + 12000000 := ⟨_, rfl⟩
  refine laws_FnExactShortenAt.calls (K + 1) a A c l B d ns true W hG hr hc hr2 hc2 ?_
  obtain ⟨r, h1, h2⟩ := laws_szShortS.val l hm hs 1048576 (by omega) (by omega)
  unfold laws_FnExactShortenAt.f
  by_cases h0 : (a.size : Int) > 1048576
  · rw [if_pos h0]
  rw [if_neg h0]
  by_cases hn : (ns.length : Int) > 1048576
  · rw [if_pos hn]
  rw [if_neg hn, at_rounds (laws_szShortS.mono l 1048576) (by omega) h1]
  simp only [Option.bind_some]
  by_cases h : r < 0
  · rw [if_pos h]
  rw [if_neg h]
  have hl : l.length ≤ 1048576 := by omega
  have eT : ∀ k, l.length < k → laws_toShortS.f k l = some (l.map toSh) := fun k hk => at_rounds (laws_toShortS.mono l) (by omega) (laws_toShortS.val l (by omega))
  have eN : ∀ k, ns.length < k → laws_toInt64S.f k ns = some ns := fun k hk => laws_toInt64S.val ns (by omega) k hk
  have hml : (l.map toSh).length = l.length := by simp
  have h3 : ∀ x ∈ l, x.f0.size ≤ 1048576 ∧ x.f1.size ≤ 1048576 := fun x hx => by
    rcases h2 with h2 | h2
    · omega
    · have := h2.2.2.2 x hx; omega
  have e1 := spec_ShortenAt.val a (by omega) (l.map toSh) (by omega) (fun x hx => by obtain ⟨y, hy, rfl⟩ := List.mem_map.1 hx; exact h3 y hy) ns (by omega) (K + 1) (by omega)
  have e2 : impl_ShortenAt.f a (l.map toSh) ns = some (ansT a (l.map toSh) ns) := if_pos ⟨by omega, by omega⟩
  have e3 : ∀ k, l.length < k → laws_eqShortS.f k (l.map toSh) (l.map toSh) = some true := fun k hk => at_rounds (laws_eqShortS.mono (l.map toSh) (l.map toSh)) (by omega) (laws_eqShortS.val_self (l.map toSh) (by omega))
  have e4 : ∀ k, ns.length < k → laws_eqInt64S.f k ns ns = some true := fun k hk => laws_eqInt64S.refl ns (by omega) k hk
  rw [eT _ (by omega), Option.bind_some, eN _ (by omega), Option.bind_some, e1, Option.bind_some, Option.bind_some, Option.bind_some, e2, Option.bind_some, if_pos rfl, laws_FnExactShortenAt.j0, if_neg (by simp), eT _ (by omega), Option.bind_some, e3 _ (by omega), Option.bind_some, if_pos rfl, eN _ (by omega), Option.bind_some, e4 _ (by omega), Option.bind_some, if_pos rfl]
end Go.Proofs.YtiapaggkbhdnkaaGreatDoor.Q
