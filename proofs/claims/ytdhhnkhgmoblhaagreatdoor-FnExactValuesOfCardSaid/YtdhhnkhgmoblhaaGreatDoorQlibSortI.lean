/- slices.Sort and slices.Compact over a row of int64 of one's own, out of the shelf. -/
import Derived.Test.YtdhhnkhgmoblhaaGreatDoorQ0
import Derived.Test.YtdhhnkhgmoblhaaGreatDoorShelfJ
import Derived.Test.YtdhhnkhgmoblhaaGreatDoorQhandTwo
import Derived.Sort.OwnSortedInts
import Derived.Test.YtdhhnkhgmoblhaaGreatDoorProg
import Derived.Shelf.SortG.Plain
import Derived.Shelf.SortG.SortNone
import Derived.Shelf.SlGeneric
import Derived.Ground.SlgnProg
import Derived.Lib.RowBridge
namespace Go.Proofs
open Go.Shelf
def Tryz.lSortI_ren : Go.Shelf.Ren := ⟨fun | 53 => 37 | 64 => 60 | 63 => 59 | 78 => 84 | 79 => 85 | 70 => 75 | 71 => 76 | 72 => 77 | 73 => 78 | 74 => 79 | 75 => 80 | 59 => 81 | 76 => 82 | 77 => 83 | 88 => 104 | 89 => 105 | 90 => 106 | 91 => 107 | 92 => 108 | 68 => 109 | 96 => 122 | n => n, fun | 22 => 39 | 23 => 2 | 3 => 3 | 51 => 95 | 0 => 0 | 67 => 118 | 69 => 120 | 4 => 4 | 61 => 110 | 60 => 109 | 44 => 115 | 5 => 5 | 9 => 9 | 75 => 142 | 79 => 146 | 83 => 154 | 84 => 155 | n => n, fun | n => n⟩
theorem Tryz.lSortI : Go.Proofs.SlLaysN.n53 Tryz.prog Tryz.lSortI_ren := {
  mixed := by kernel_rfl
  f53 := ⟨Tryz.f37.name, by decide, Tryz.func37.trans (congrArg some (by kernel_rfl))⟩
  f59 := ⟨Tryz.f81.name, by decide, Tryz.func81.trans (congrArg some (by kernel_rfl))⟩
  f63 := ⟨Tryz.f59.name, by decide, Tryz.func59.trans (congrArg some (by kernel_rfl))⟩
  f64 := Tryz.func60.trans (congrArg some (by kernel_rfl))
  f68 := ⟨Tryz.f109.name, by decide, Tryz.func109.trans (congrArg some (by kernel_rfl))⟩
  f70 := ⟨Tryz.f75.name, by decide, Tryz.func75.trans (congrArg some (by kernel_rfl))⟩
  f71 := ⟨Tryz.f76.name, by decide, Tryz.func76.trans (congrArg some (by kernel_rfl))⟩
  f72 := ⟨Tryz.f77.name, by decide, Tryz.func77.trans (congrArg some (by kernel_rfl))⟩
  f73 := ⟨Tryz.f78.name, by decide, Tryz.func78.trans (congrArg some (by kernel_rfl))⟩
  f74 := ⟨Tryz.f79.name, by decide, Tryz.func79.trans (congrArg some (by kernel_rfl))⟩
  f75 := ⟨Tryz.f80.name, by decide, Tryz.func80.trans (congrArg some (by kernel_rfl))⟩
  f76 := ⟨Tryz.f82.name, by decide, Tryz.func82.trans (congrArg some (by kernel_rfl))⟩
  f77 := ⟨Tryz.f83.name, by decide, Tryz.func83.trans (congrArg some (by kernel_rfl))⟩
  f78 := Tryz.func84.trans (congrArg some (by kernel_rfl))
  f79 := Tryz.func85.trans (congrArg some (by kernel_rfl))
  f88 := ⟨Tryz.f104.name, by decide, Tryz.func104.trans (congrArg some (by kernel_rfl))⟩
  f89 := Tryz.func105.trans (congrArg some (by kernel_rfl))
  f90 := Tryz.func106.trans (congrArg some (by kernel_rfl))
  f91 := ⟨Tryz.f107.name, by decide, Tryz.func107.trans (congrArg some (by kernel_rfl))⟩
  f92 := ⟨Tryz.f108.name, by decide, Tryz.func108.trans (congrArg some (by kernel_rfl))⟩
  f96 := ⟨Tryz.f122.name, by decide, Tryz.func122.trans (congrArg some (by kernel_rfl))⟩
  t0 := Tryz.underlying0
  a0 := Tryz.isAgg0
  z0 := Tryz.sizeOf0
  v0 := Tryz.zeroValue0
  t3 := Tryz.underlying3
  a3 := Tryz.isAgg3
  z3 := Tryz.sizeOf3
  v3 := Tryz.zeroValue3
  t4 := Tryz.underlying4
  a4 := Tryz.isAgg4
  z4 := Tryz.sizeOf4
  v4 := Tryz.zeroValue4
  t5 := Tryz.underlying5
  a5 := Tryz.isAgg5
  z5 := Tryz.sizeOf5
  v5 := Tryz.zeroValue5
  t9 := Tryz.underlying9
  a9 := Tryz.isAgg9
  z9 := Tryz.sizeOf9
  v9 := Tryz.zeroValue9
  t22 := Tryz.underlying39
  a22 := Tryz.isAgg39
  z22 := Tryz.sizeOf39
  v22 := Tryz.zeroValue39
  t23 := Tryz.underlying2
  a23 := Tryz.isAgg2
  z23 := Tryz.sizeOf2
  v23 := Tryz.zeroValue2
  t44 := Tryz.underlying115
  a44 := Tryz.isAgg115
  z44 := Tryz.sizeOf115
  v44 := Tryz.zeroValue115
  t51 := Tryz.underlying95
  a51 := Tryz.isAgg95
  z51 := Tryz.sizeOf95
  v51 := Tryz.zeroValue95
  t60 := Tryz.underlying109
  a60 := Tryz.isAgg109
  z60 := Tryz.sizeOf109
  v60 := Tryz.zeroValue109
  t61 := Tryz.underlying110
  a61 := Tryz.isAgg110
  z61 := Tryz.sizeOf110
  v61 := Tryz.zeroValue110
  t67 := Tryz.underlying118
  a67 := Tryz.isAgg118
  z67 := Tryz.sizeOf118
  v67 := Tryz.zeroValue118
  t69 := Tryz.underlying120
  a69 := Tryz.isAgg120
  z69 := Tryz.sizeOf120
  v69 := Tryz.zeroValue120
  t75 := Tryz.underlying142
  a75 := Tryz.isAgg142
  z75 := Tryz.sizeOf142
  v75 := Tryz.zeroValue142
  t79 := Tryz.underlying146
  a79 := Tryz.isAgg146
  z79 := Tryz.sizeOf146
  v79 := Tryz.zeroValue146
  t83 := Tryz.underlying154
  a83 := Tryz.isAgg154
  z83 := Tryz.sizeOf154
  v83 := Tryz.zeroValue154
  t84 := Tryz.underlying155
  a84 := Tryz.isAgg155
  z84 := Tryz.sizeOf155
  v84 := Tryz.zeroValue155 }
end Go.Proofs
namespace Go.Proofs.YtdhhnkhgmoblhaaGreatDoor.Q
open Go.RowKit Go.Proofs.YtdhhnkhgmoblhaaGreatDoorW.PrintWords Go.Proofs.YtdhhnkhgmoblhaaGreatDoorW.PrintLast Go.Proofs.YtdhhnkhgmoblhaaGreatDoorW.PrintMore
open Go.Sort Go.Lib
set_option linter.unusedVariables false

def sortI (l : List Int) : List Int := l.mergeSort fun x y => decide (x ≤ y)
theorem sortI_len (l : List Int) : (sortI l).length = l.length := List.length_mergeSort ..
theorem slices_Sort_int64.callsV (base : Nat) (ok : Nat → Prop) (v : Value) (l : List Int) (w : World) (hR : Kd.R (Kd.int .i64) 2 w base ok v l) (hl : l.length ≤ 1048576) :
    Calls Tryz.prog 37 #[v] w fun e w' => e = .returned (.tuple #[]) ∧ Kd.R (Kd.int .i64) 2 w' base ok v (sortI l) ∧ w.grownBy w' v.ownBlock := by
  have ho := Kd.own_of_R hR
  have hbk := ho.2
  rcases hbk with ⟨h1, h0⟩ | ⟨g, cap, cur, h1, hbase, hb, hn, hc, hs, ht⟩
  · subst h1
    have hl0 : l = [] := List.length_eq_zero_iff.1 h0
    subst hl0
    have hcall := AnyG.slices_Sort_int_none Tryz.lSortI none 0 w
    change Calls Tryz.prog 37 _ _ _ at hcall
    refine hcall.mono ?_
    rintro e w' ⟨rfl, rfl⟩
    exact ⟨rfl, by rw [show sortI [] = [] from List.mergeSort_nil ..]; exact hR, .refl _ _⟩
  · subst h1
    have ht2 : cur.toList.take l.length = l.map (Value.int .i64) := by
      have h9 := ht
      rw [Nat.mul_one] at h9
      exact h9
    have hcall := AnyG.slices_Sort_int Tryz.lSortI g 0 cap l w (holds_of_blockI hb ht2) (Array.getElem?_eq_some_iff.1 hb).1 (by omega)
    change Calls Tryz.prog 37 _ _ _ at hcall
    refine hcall.mono ?_
    rintro e w' ⟨rfl, n, os, rfl⟩
    refine ⟨rfl, ?_, grownBy_sortedI _⟩
    have h9 := ownsRow_sortedI (w := w) (n := n) (os := os) (ss := l) (ts := l.mergeSort fun x y => decide (x ≤ y)) (cap := cap) (e := 2) (by rw [List.length_mergeSort]) hbase hb hn hc hs
    have h10 := Kd.R_of_own (enc := Value.int .i64) (h1 := fun _ => rfl) (xs := sortI l) (by rw [sortI_len]; exact h9) (ok := ok) (fun k hk => hR.1 k hk)
    exact h10
theorem slices_Compact_int64.callsV (base : Nat) (ok : Nat → Prop) (v : Value) (l : List Int) (w : World) (hR : Kd.R (Kd.int .i64) 2 w base ok v l) (hl : l.length ≤ 1048576) :
    Calls Tryz.prog 38 #[v] w fun e w' => ∃ u : Value, e = .returned u ∧ Kd.R (Kd.int .i64) 2 w' base ok u (compact l) ∧ w.grownBy w' v.ownBlock := by
  have ho := Kd.own_of_R hR
  have hbk := ho.2
  rcases hbk with ⟨h1, h0⟩ | ⟨g, cap, cur, h1, hbase, hb, hn, hc, hs, ht⟩
  · subst h1
    have hl0 : l = [] := List.length_eq_zero_iff.1 h0
    subst hl0
    refine (Tryz.slices_Compact_int_empty none 0 w).mono ?_
    rintro e w' ⟨rfl, rfl⟩
    exact ⟨_, rfl, hR, .refl _ _⟩
  · subst h1
    have ht2 : cur.toList.take l.length = l.map (Value.int .i64) := by
      have h9 := ht
      rw [Nat.mul_one] at h9
      exact h9
    refine (Tryz.slices_Compact_int g 0 cap l w (holds_of_blockI hb ht2) (by omega) hn).mono ?_
    rintro e w' ⟨rfl, q, rfl⟩
    have hle := compact_length_le l
    have hg : grow (putRow (Value.int .i64) (Sort.ahead w q) g 0 (compact l ++ List.replicate (l.length - (compact l).length) 0).toArray) #[] = putRow (Value.int .i64) (Sort.ahead w q) g 0 (compact l ++ List.replicate (l.length - (compact l).length) 0).toArray := by
      unfold grow
      rw [Array.append_empty]
    have h9 := ownsRow_sortedI (w := w) (n := q) (os := #[]) (ss := l) (ts := compact l ++ List.replicate (l.length - (compact l).length) 0) (cap := cap) (e := 2) (by rw [List.length_append, List.length_replicate]; omega) hbase hb hn hc hs
    have h8 := grownBy_sortedI (w := w) (g := g) (n := q) (os := #[]) (compact l ++ List.replicate (l.length - (compact l).length) 0).toArray
    rw [hg] at h9 h8
    refine ⟨_, rfl, ?_, h8⟩
    refine Kd.R_of_own (enc := Value.int .i64) (h1 := fun _ => rfl) (xs := compact l) ?_ (ok := ok) (fun k hk => hR.1 k hk)
    obtain ⟨p1, p2⟩ := h9
    rcases p2 with ⟨h1, _⟩ | ⟨g', cap', cur', h1, hbase', hb', hn', hc', hs', ht'⟩
    · cases h1
    · injection h1 with e1 e2 e3
      injection e1 with e1
      injection e1 with e1 _
      subst e1
      subst e3
      refine ⟨by simp [encs], .inr ⟨g, cap, cur', rfl, hbase', hb', by omega, hc', hs', ?_⟩⟩
      rw [Nat.mul_one] at ht' ⊢
      have h7 : (cur'.toList.take l.length).take (compact l).length = ((compact l ++ List.replicate (l.length - (compact l).length) 0).map (Value.int .i64)).take (compact l).length := by rw [ht']
      rw [List.take_take, Nat.min_eq_left hle, List.map_append, List.take_append_of_le_length (by simp), List.take_of_length_le (show ((compact l).map (Value.int .i64)).length ≤ (compact l).length by simp)] at h7
      exact h7
end Go.Proofs.YtdhhnkhgmoblhaaGreatDoor.Q
