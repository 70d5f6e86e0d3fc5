/- spec.JoinAll answers as the program does; the law JoinAll holds. -/
import Derived.Test.YteahgkijaehobaaDoorQhandJoinAll
import Derived.Test.YteahgkijaehobaaDoorQspecJoinAll
import Derived.Test.YteahgkijaehobaaDoorQlawsFnExactJoinAll
import Derived.Test.YteahgkijaehobaaDoorQpurePieces
import Derived.Test.YteahgkijaehobaaDoorQpureLaw
namespace Go.Proofs.YteahgkijaehobaaDoor.Q
open Go.RowKit Go.Proofs.YteahgkijaehobaaDoorW.PrintWords Go.Proofs.YteahgkijaehobaaDoorW.PrintLast Go.Proofs.YteahgkijaehobaaDoorW.PrintMore
open Go.Proofs.YteahgkijaehobaaDoor.Pure
set_option linter.unusedVariables false

theorem spec_l1 (l0 : List GP) (l1 : List Int) (h : piecesB l0 = true) (h1 : l1.all (numB l0) = true) (hl : l1.length ≤ 1000000000) : ∀ d i, i + d = l1.length →
    spec_JoinAll.l1 (d + l1.length + 3) l0 l1 (textTo l0 l1 i) (i : Nat) = some (if orderFrom l0 l1 i = true then (textTo l0 l1 l1.length, 0) else (⟨#[]⟩, 4)) := by
  intro d
  induction d with
  | zero =>
    intro i hi
    obtain rfl : i = l1.length := by omega
    rw [Nat.zero_add, show l1.length + 3 = (l1.length + 2) + 1 by omega, spec_JoinAll.l1, if_neg (by omega), orderFrom_end]
    rfl
  | succ d ih =>
    intro i hi
    have hlt : i < l1.length := by omega
    have hs := textTo_size h l1 h1 i (by omega)
    have hn := List.all_eq_true.1 h1 _ (rd_mem l1 i hlt)
    have hp := (pieces_small h).2 _ hn
    have hn' := numB_iff.1 hn
    have hlen : (l1.take i).length = i := by rw [List.length_take]; omega
    have hhas := at_rounds (spec_l00Has.mono (l1.take i) (rd l1 (i : Nat))) (k' := d + l1.length + 3) (by omega) (spec_l00Has.val (l1.take i) (rd l1 (i : Nat)) (by omega))
    have hgoes : goesB l0 (l1.take i) (rd l1 (i : Nat)) = (!((l1.take i).any fun x => rd l1 (i : Nat) == x) && (decide (i = 0) || joinsB (rd_T69 l0 (rd l1 ((i - 1 : Nat) : Int))) (rd_T69 l0 (rd l1 (i : Nat))))) := by
      unfold goesB
      rw [hlen]
      by_cases h0 : i = 0
      · simp [h0]
      · have e : rd (l1.take i) ((i - 1 : Nat) : Int) = rd l1 ((i - 1 : Nat) : Int) := by
          rw [Pure.rd_get _ _ (by omega), Pure.rd_get _ _ (by omega), List.getElem_take]
        rw [e]
    have hnext := ih (i + 1) (by omega)
    rw [textTo_step] at hnext
    rw [show d + 1 + l1.length + 3 = (d + l1.length + 3) + 1 by omega, spec_JoinAll.l1, if_pos (by omega), if_pos (by omega), if_pos (by omega), Int.toNat_natCast, hhas, orderFrom_step l0 l1 i hlt, hgoes]
    simp only [Option.bind_some]
    cases hq : ((l1.take i).any fun x => rd l1 (i : Nat) == x) with
    | true => simp
    | false =>
      simp only [Bool.false_eq_true, if_false, Bool.not_false, Bool.true_and]
      by_cases h0 : i = 0
      · rw [if_neg (by omega), if_pos hn'.1, if_pos hn'.2, if_pos (by omega), wrap_succ hlt (by omega), decide_eq_true h0, Bool.true_or, Bool.true_and]
        exact hnext
      · have e : wrap64 ((i : Int) - 1) = ((i - 1 : Nat) : Int) := by rw [wrap_id (by omega) (by omega)]; omega
        have hm := numB_iff.1 (List.all_eq_true.1 h1 _ (rd_mem l1 (i - 1) (by omega)))
        rw [if_pos (by omega), e, if_pos (by omega), if_pos (by omega), if_pos hm.1, if_pos hm.2, if_pos hn'.1, if_pos hn'.2, decide_eq_false h0, Bool.false_or]
        show ((some (joinsB (rd_T69 l0 (rd l1 ((i - 1 : Nat) : Int))) (rd_T69 l0 (rd l1 (i : Nat))))).bind _) = _
        simp only [Option.bind_some]
        cases hj : joinsB (rd_T69 l0 (rd l1 ((i - 1 : Nat) : Int))) (rd_T69 l0 (rd l1 (i : Nat))) with
        | true =>
          rw [if_pos rfl, if_pos (by omega), wrap_succ hlt (by omega), Bool.true_and]
          exact hnext
        | false => simp

theorem spec_l0 (l0 : List GP) (l1 : List Int) (h : piecesB l0 = true) (hl : l1.length ≤ 1000000000) : ∀ d i, i + d = l1.length → (l1.take i).all (numB l0) = true →
    spec_JoinAll.l0 (d + (l1.length + l1.length + 3) + 1) l0 l1 (i : Nat) = some (if l1.all (numB l0) = true then (if orderFrom l0 l1 0 = true then (textTo l0 l1 l1.length, 0) else (⟨#[]⟩, 4)) else (⟨#[]⟩, 2)) := by
  have hlp := (pieces_small h).1
  intro d
  induction d with
  | zero =>
    intro i hi ha
    obtain rfl : i = l1.length := by omega
    rw [List.take_of_length_le (Nat.le_refl _)] at ha
    rw [Nat.zero_add, spec_JoinAll.l0, if_neg (by omega), if_pos ha]
    exact spec_l1 l0 l1 h ha hl l1.length 0 (by omega)
  | succ d ih =>
    intro i hi ha
    have hlt : i < l1.length := by omega
    have hin : spec_l00In.f (rd l1 (i : Nat)) 0 (wrap64 ((l0.length : Int) - 1)) = some (numB l0 (rd l1 (i : Nat))) := by
      rw [wrap_id (by omega) (by omega)]
      unfold spec_l00In.f numB
      by_cases h : (rd l1 (i : Nat)) ≥ 0
      · rw [if_pos h, decide_eq_true (show 0 ≤ rd l1 (i : Nat) from h), Bool.true_and]
      · rw [if_neg h, decide_eq_false (show ¬ 0 ≤ rd l1 (i : Nat) from h), Bool.false_and]
    rw [show d + 1 + (l1.length + l1.length + 3) + 1 = (d + (l1.length + l1.length + 3) + 1) + 1 by omega, spec_JoinAll.l0, if_pos (by omega), if_pos (by omega), hin, wrap_succ hlt (by omega)]
    simp only [Option.bind_some]
    cases hq : numB l0 (rd l1 (i : Nat)) with
    | true =>
      rw [if_pos rfl]
      exact ih (i + 1) (by omega) (by rw [List.take_succ_eq_append_getElem hlt, List.all_append, ha, ← Pure.rd_get l1 i hlt]; simp [hq])
    | false =>
      have : l1.all (numB l0) = false := by
        rw [List.all_eq_false]
        exact ⟨_, rd_mem l1 i hlt, by rw [hq]; simp⟩
      rw [this]
      rfl

theorem spec_JoinAll.val (l0 : List GP) (l1 : List Int) (hl0 : l0.length ≤ 9223372036854775807) (hl : l1.length ≤ 1000000000) (k : Nat) (hk : l0.length + 3 * l1.length + 30 ≤ k) : spec_JoinAll.f k l0 l1 = some (joinAllM l0 l1) := by
  unfold spec_JoinAll.f joinAllM
  rw [spec_l04Pieces.val l0 hl0 k (by omega)]
  simp only [Option.bind_some]
  cases hp : piecesB l0 with
  | false => simp
  | true =>
    simp only [if_true]
    exact at_rounds (fun k => (spec_JoinAll.mono_l k).1 _ _ _) (by omega) (spec_l0 l0 l1 hp hl l1.length 0 (by omega) (by simp))

theorem laws_FnExactJoinAll.holds (l0 : List LP) (A0 : Option Addr) (c0 : Nat) (l1 : List Int) (A1 : Option Addr) (c1 : Nat) (W : World) (hG : Glob W) (hr0 : Kd.C k68 W A0 l0.length l0) (hc0 : l0.length ≤ c0) (hs : ∀ x ∈ l0, x.f0.size ≤ 9223372036854775807) (hr1 : Kd.C (Kd.int .i64) W A1 l1.length l1) (hc1 : l1.length ≤ c1) :
    Calls Tryd.prog 8 #[.slice A0 l0.length c0, .slice A1 l1.length c1] W fun e w' => e = .returned (.bool true) ∧ Below W.heap.size W w' := by
  have hm0 := Kd.C_max hr0
  refine laws_FnExactJoinAll.calls (l0.length + 3 * l1.length + 40) A0 c0 l0 A1 c1 l1 true W hG hr0 hc0 hr1 hc1 ?_
  unfold laws_FnExactJoinAll.f
  by_cases h : (l1.length : Int) > 1048576
  · rw [if_pos h]
  rw [if_neg h]
  obtain ⟨r, h1, h2⟩ := laws_szPieceS.val l0 hm0 hs 1048576 (by omega) (by omega)
  rw [at_rounds (laws_szPieceS.mono l0 1048576) (by omega) h1]
  simp only [Option.bind_some]
  by_cases h : r < 0
  · rw [if_pos h]
  rw [if_neg h]
  have hl : l0.length ≤ 1048576 := by omega
  have hml : (l0.map toP).length = l0.length := by simp
  have e1 : ∀ k, l0.length < k → laws_toPieceS.f k l0 = some (l0.map toP) := fun k hk => at_rounds (laws_toPieceS.mono l0) (by omega) (laws_toPieceS.val l0 (by omega))
  have e2 : ∀ k, l0.length < k → laws_eqPieceS.f k (l0.map toP) (l0.map toP) = some true := fun k hk => at_rounds (laws_eqPieceS.mono _ _) (by omega) (laws_eqPieceS.val_self (l0.map toP) (by omega))
  have e3 : ∀ k, l1.length < k → laws_toInt64S.f k l1 = some l1 := fun k hk => at_rounds (laws_toInt64S.mono l1) (by omega) (laws_toInt64S.val l1 (by omega))
  have e4 : ∀ k, l1.length < k → laws_eqInt64S.f k l1 l1 = some true := fun k hk => by
    rw [at_rounds (laws_eqInt64S.mono l1 l1) (by omega) (laws_eqInt64S.val l1 l1 (by omega))]; simp
  have e5 : impl_JoinAll.f (l0.map toP) l1 = some (joinAllM (l0.map toP) l1) := if_pos (by omega)
  have e6 : ∀ k, l0.length + 3 * l1.length + 30 ≤ k → spec_JoinAll.f k (l0.map toP) l1 = some (joinAllM (l0.map toP) l1) := fun k hk => spec_JoinAll.val _ _ (by omega) (by omega) k (by omega)
  generalize joinAllM (l0.map toP) l1 = q at *
  generalize l0.map toP = m0 at *
  rw [e1 _ (by omega)]
  simp only [Option.bind_some]
  rw [e3 _ (by omega)]
  simp only [Option.bind_some]
  rw [e6 _ (by omega)]
  simp only [Option.bind_some]
  rw [e5]
  simp only [Option.bind_some, if_true, bne_self_eq_false]
  show laws_FnExactJoinAll.j0 (l0.length + 3 * l1.length + 39 + 1) _ _ _ _ _ = _
  rw [laws_FnExactJoinAll.j0]
  simp only [Bool.false_eq_true, if_false]
  rw [e1 _ (by omega)]
  simp only [Option.bind_some]
  rw [e2 _ (by omega)]
  simp only [Option.bind_some, if_true]
  rw [e3 _ (by omega)]
  simp only [Option.bind_some]
  rw [e4 _ (by omega)]
  rfl
end Go.Proofs.YteahgkijaehobaaDoor.Q
