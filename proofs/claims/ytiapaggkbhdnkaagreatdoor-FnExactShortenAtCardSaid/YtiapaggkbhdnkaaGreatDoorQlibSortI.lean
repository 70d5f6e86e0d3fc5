/- slices.Sort and slices.Compact over a row of int64 of one's own, out of the shelf. -/
import Derived.Test.YtiapaggkbhdnkaaGreatDoorQ0
import Derived.Test.YtiapaggkbhdnkaaGreatDoorShelfJ
import Derived.Test.YtiapaggkbhdnkaaGreatDoorQhandTwo
import Derived.Sort.OwnSortedInts
import Derived.Test.YtiapaggkbhdnkaaGreatDoorSortI
import Derived.Shelf.SortG.Plain
import Derived.Shelf.SortG.SortNone
import Derived.Shelf.SlGeneric
import Derived.Ground.SlgnProg
import Derived.Lib.RowBridge
namespace Go.Proofs.YtiapaggkbhdnkaaGreatDoor.Q
open Go.RowKit Go.Proofs.YtiapaggkbhdnkaaGreatDoorW.PrintWords Go.Proofs.YtiapaggkbhdnkaaGreatDoorW.PrintLast Go.Proofs.YtiapaggkbhdnkaaGreatDoorW.PrintMore
open Go.Sort Go.Lib
set_option linter.unusedVariables false

def sortI (l : List Int) : List Int := l.mergeSort fun x y => decide (x ≤ y)
theorem sortI_len (l : List Int) : (sortI l).length = l.length := List.length_mergeSort ..
theorem slices_Sort_int64.callsV (base : Nat) (ok : Nat → Prop) (v : Value) (l : List Int) (w : World) (hR : Kd.R (Kd.int .i64) 2 w base ok v l) (hl : l.length ≤ 1048576) :
    Calls Tryz.prog 24 #[v] w fun e w' => e = .returned (.tuple #[]) ∧ Kd.R (Kd.int .i64) 2 w' base ok v (sortI l) ∧ w.grownBy w' v.ownBlock := by
  have ho := Kd.own_of_R hR
  have hbk := ho.2
  rcases hbk with ⟨h1, h0⟩ | ⟨g, cap, cur, h1, hbase, hb, hn, hc, hs, ht⟩
  · subst h1
    have hl0 : l = [] := List.length_eq_zero_iff.1 h0
    subst hl0
    have hcall := AnyG.slices_Sort_int_none Tryz.lSortI none 0 w
    change Calls Tryz.prog 24 _ _ _ at hcall
    refine hcall.mono ?_
    rintro e w' ⟨rfl, rfl⟩
    exact ⟨rfl, by rw [show sortI [] = [] from List.mergeSort_nil ..]; exact hR, .refl _ _⟩
  · subst h1
    have ht2 : cur.toList.take l.length = l.map (Value.int .i64) := by
      have h9 := ht
      rw [Nat.mul_one] at h9
      exact h9
    have hcall := AnyG.slices_Sort_int Tryz.lSortI g 0 cap l w (holds_of_blockI hb ht2) (Array.getElem?_eq_some_iff.1 hb).1 (by omega)
    change Calls Tryz.prog 24 _ _ _ at hcall
    refine hcall.mono ?_
    rintro e w' ⟨rfl, n, os, rfl⟩
    refine ⟨rfl, ?_, grownBy_sortedI _⟩
    have h9 := ownsRow_sortedI (w := w) (n := n) (os := os) (ss := l) (ts := l.mergeSort fun x y => decide (x ≤ y)) (cap := cap) (e := 2) (by rw [List.length_mergeSort]) hbase hb hn hc hs
    have h10 := Kd.R_of_own (enc := Value.int .i64) (h1 := fun _ => rfl) (xs := sortI l) (by rw [sortI_len]; exact h9) (ok := ok) (fun k hk => hR.1 k hk)
    exact h10
theorem slices_Compact_int64.callsV (base : Nat) (ok : Nat → Prop) (v : Value) (l : List Int) (w : World) (hR : Kd.R (Kd.int .i64) 2 w base ok v l) (hl : l.length ≤ 1048576) :
    Calls Tryz.prog 29 #[v] w fun e w' => ∃ u : Value, e = .returned u ∧ Kd.R (Kd.int .i64) 2 w' base ok u (compact l) ∧ w.grownBy w' v.ownBlock := by
  have ho := Kd.own_of_R hR
  have hbk := ho.2
  rcases hbk with ⟨h1, h0⟩ | ⟨g, cap, cur, h1, hbase, hb, hn, hc, hs, ht⟩
  · subst h1
    have hl0 : l = [] := List.length_eq_zero_iff.1 h0
    subst hl0
    refine (Tryz.slices_Compact_int_empty none 0 w).mono ?_
    rintro e w' ⟨rfl, rfl⟩
    exact ⟨_, rfl, hR, .refl _ _⟩
  · subst h1
    have ht2 : cur.toList.take l.length = l.map (Value.int .i64) := by
      have h9 := ht
      rw [Nat.mul_one] at h9
      exact h9
    refine (Tryz.slices_Compact_int g 0 cap l w (holds_of_blockI hb ht2) (by omega) hn).mono ?_
    rintro e w' ⟨rfl, q, rfl⟩
    have hle := compact_length_le l
    have hg : grow (putRow (Value.int .i64) (Sort.ahead w q) g 0 (compact l ++ List.replicate (l.length - (compact l).length) 0).toArray) #[] = putRow (Value.int .i64) (Sort.ahead w q) g 0 (compact l ++ List.replicate (l.length - (compact l).length) 0).toArray := by
      unfold grow
      rw [Array.append_empty]
    have h9 := ownsRow_sortedI (w := w) (n := q) (os := #[]) (ss := l) (ts := compact l ++ List.replicate (l.length - (compact l).length) 0) (cap := cap) (e := 2) (by rw [List.length_append, List.length_replicate]; omega) hbase hb hn hc hs
    have h8 := grownBy_sortedI (w := w) (g := g) (n := q) (os := #[]) (compact l ++ List.replicate (l.length - (compact l).length) 0).toArray
    rw [hg] at h9 h8
    refine ⟨_, rfl, ?_, h8⟩
    refine Kd.R_of_own (enc := Value.int .i64) (h1 := fun _ => rfl) (xs := compact l) ?_ (ok := ok) (fun k hk => hR.1 k hk)
    obtain ⟨p1, p2⟩ := h9
    rcases p2 with ⟨h1, _⟩ | ⟨g', cap', cur', h1, hbase', hb', hn', hc', hs', ht'⟩
    · cases h1
    · injection h1 with e1 e2 e3
      injection e1 with e1
      injection e1 with e1 _
      subst e1
      subst e3
      refine ⟨by simp [encs], .inr ⟨g, cap, cur', rfl, hbase', hb', by omega, hc', hs', ?_⟩⟩
      rw [Nat.mul_one] at ht' ⊢
      have h7 : (cur'.toList.take l.length).take (compact l).length = ((compact l ++ List.replicate (l.length - (compact l).length) 0).map (Value.int .i64)).take (compact l).length := by rw [ht']
      rw [List.take_take, Nat.min_eq_left hle, List.map_append, List.take_append_of_le_length (by simp), List.take_of_length_le (show ((compact l).map (Value.int .i64)).length ≤ (compact l).length by simp)] at h7
      exact h7
end Go.Proofs.YtiapaggkbhdnkaaGreatDoor.Q
