/- The law MatchWorn holds. -/
import Derived.Test.YteahgkijaehobaaDoorQlawsFnExactMatchWorn
import Derived.Test.YteahgkijaehobaaDoorQpureLaw
import Derived.Test.YteahgkijaehobaaDoorQpureMark
import Derived.Test.YteahgkijaehobaaDoorQpureMatch
namespace Go.Proofs.YteahgkijaehobaaDoor.Q
open Go.RowKit Go.Proofs.YteahgkijaehobaaDoorW.PrintWords Go.Proofs.YteahgkijaehobaaDoorW.PrintLast Go.Proofs.YteahgkijaehobaaDoorW.PrintMore
open Go.Proofs.YteahgkijaehobaaDoor.Pure
set_option linter.unusedVariables false

theorem matchM_len (a : ByteArray) (l : List ByteArray) : (matchM a l).1.length ≤ l.length := by
  unfold matchM
  split
  · split
    · exact selL_len _ _
    · exact Nat.zero_le _
  · exact Nat.zero_le _

theorem laws_FnExactMatchWorn.holds (a : ByteArray) (l : List ByteArray) (A : Option Addr) (c : Nat) (W : World) (hG : Glob W) (hr : Kd.C Kd.string W A l.length l) (hc : l.length ≤ c) (ha : a.size ≤ 9223372036854775807) (hs : ∀ x ∈ l, x.size ≤ 9223372036854775807) :
    Calls Tryd.prog 9 #[.string a, .slice A l.length c] W fun e w' => e = .returned (.bool true) ∧ Below W.heap.size W w' := by
  have hm := Kd.C_max hr
  refine laws_FnExactMatchWorn.calls (a.size + l.length + 2000) a A c l true W hG hr hc ?_
  unfold laws_FnExactMatchWorn.f
  by_cases h : (a.size : Int) > 1048576
  · rw [if_pos h]
  rw [if_neg h]
  obtain ⟨r, h1, h2⟩ := laws_szStringS.val l hm hs 1048576 (by omega) (by omega)
  rw [at_rounds (laws_szStringS.mono l 1048576) (by omega) h1]
  simp only [Option.bind_some]
  by_cases h : r < 0
  · rw [if_pos h]
  rw [if_neg h]
  have hl : l.length ≤ 1048576 := by omega
  have e1 : ∀ k, l.length < k → laws_toStringS.f k l = some l := fun k hk => at_rounds (laws_toStringS.mono l) (by omega) (laws_toStringS.val l (by omega))
  have e2 : ∀ k, l.length < k → laws_eqStringS.f k l l = some true := fun k hk => by
    rw [at_rounds (laws_eqStringS.mono l l) (by omega) (laws_eqStringS.val l l hm)]; simp
  have hml := matchM_len a l
  have e3 : ∀ k, l.length < k → laws_eqInt64S.f k (matchM a l).1 (matchM a l).1 = some true := fun k hk => by
    rw [at_rounds (laws_eqInt64S.mono _ _) (by omega) (laws_eqInt64S.val (matchM a l).1 (matchM a l).1 (by omega))]; simp
  have e4 : impl_MatchWorn.f a l = some (matchM a l) := if_pos ha
  have e5 : ∀ k, a.size + l.length + 1000 ≤ k → spec_MatchWorn.f k a l = some (matchM a l) := fun k hk => spec_MatchWorn.val a l ha hm k hk
  generalize hq : matchM a l = q at *
  have e6 : ∀ k, l.length < k → laws_markInt64S.f k q.1 1 = some (((q.1.length + 1 : Nat) : Int), oneTo q.1.length) := fun k hk => at_rounds (laws_markInt64S.mono _ _) (by omega) (laws_markInt64S.val q.1 (by omega))
  have e7 : ∀ k, l.length < k → laws_heldInt64S.f k (oneTo q.1.length) 1 = some ((q.1.length + 1 : Nat) : Int) := fun k hk => at_rounds (laws_heldInt64S.mono _ _) (by omega) (laws_heldInt64S.val q.1.length (by omega))
  obtain ⟨m, hm1⟩ : ∃ m, ∀ k, l.length + 22 ≤ k → laws_markStringS.f k l 1 = some (((l.length + 1 : Nat) : Int), m) := by
    obtain ⟨m, h⟩ := laws_markStringS.some_ l (by omega) (l.length + 22) (by omega)
    exact ⟨m, fun k hk => at_rounds (laws_markStringS.mono _ _) hk h⟩
  rw [e1 _ (by omega)]
  simp only [Option.bind_some]
  rw [e5 _ (by omega)]
  simp only [Option.bind_some]
  rw [e4]
  simp only [Option.bind_some]
  rw [e3 _ (by omega)]
  simp only [Option.bind_some, if_true, bne_self_eq_false]
  show laws_FnExactMatchWorn.j0 (a.size + l.length + 1999 + 1) _ _ _ _ _ _ _ _ = _
  rw [laws_FnExactMatchWorn.j0]
  simp only [Bool.false_eq_true, if_false]
  rw [e1 _ (by omega)]
  simp only [Option.bind_some]
  rw [e2 _ (by omega)]
  simp only [Option.bind_some, if_true]
  rw [hm1 _ (by omega)]
  simp only [Option.bind_some]
  rw [if_neg (by omega), e3 _ (by omega)]
  simp only [Option.bind_some, if_true, bne_self_eq_false]
  show laws_FnExactMatchWorn.j1 (a.size + l.length + 1998 + 1) _ _ _ _ _ _ = _
  rw [laws_FnExactMatchWorn.j1]
  simp only [Bool.false_eq_true, if_false]
  rw [e6 _ (by omega)]
  simp only [Option.bind_some]
  rw [e7 _ (by omega)]
  simp only [Option.bind_some, if_true]
  rw [if_neg (by omega), e1 _ (by omega)]
  simp only [Option.bind_some]
  rw [e4]
  simp only [Option.bind_some]
  rw [e3 _ (by omega)]
  simp only [Option.bind_some, if_true, bne_self_eq_false]
  show laws_FnExactMatchWorn.j2 (a.size + l.length + 1997 + 1) _ _ _ = _
  rw [laws_FnExactMatchWorn.j2]
  simp only [Bool.false_eq_true, if_false]
  rw [e7 _ (by omega)]
  simp only [Option.bind_some, if_true]
  rw [if_neg (by omega)]
end Go.Proofs.YteahgkijaehobaaDoor.Q
