/- slices.Sort and slices.Compact over a row of texts of one's own, out of the shelf. -/
import Derived.Test.YtiapaggkbhdnkaaDoorQlibSort
import Derived.Test.YtiapaggkbhdnkaaDoorShelfL
import Derived.Sort.OwnSorted
import Derived.Lib.SlicesCompact
namespace Go.Proofs.YtiapaggkbhdnkaaDoor.Q
open Go.RowKit Go.Proofs.YtiapaggkbhdnkaaDoorW.PrintWords Go.Proofs.YtiapaggkbhdnkaaDoorW.PrintLast Go.Proofs.YtiapaggkbhdnkaaDoorW.PrintMore
open Go.Sort Go.Lib
set_option linter.unusedVariables false

def ofL2 (l : List (List UInt8)) : List ByteArray := l.map (fun b => (⟨b.toArray⟩ : ByteArray))
def compactB (l : List ByteArray) : List ByteArray := ofL2 (compact (bytesL l))
theorem ofL2_enc (l : List (List UInt8)) : l.map encStr = (ofL2 l).map Value.string := by
  unfold ofL2
  rw [List.map_map]
  rfl
theorem bytesL_len (l : List ByteArray) : (bytesL l).length = l.length := by unfold bytesL; rw [List.length_map]
theorem slices_Sort_string.callsV (base : Nat) (ok : Nat → Prop) (v : Value) (l : List ByteArray) (w : World) (hR : Kd.R Kd.string 9 w base ok v l) (hl : l.length ≤ 1048576) :
    Calls Tryd.prog 56 #[v] w fun e w' => e = .returned (.tuple #[]) ∧ Kd.R Kd.string 9 w' base ok v (sortB l) ∧ w.grownBy w' v.ownBlock := by
  have ho := Kd.own_of_R hR
  have hbk := ho.2
  rcases hbk with ⟨h1, h0⟩ | ⟨g, cap, cur, h1, hbase, hb, hn, hc, hs, ht⟩
  · subst h1
    have hl0 : l = [] := List.length_eq_zero_iff.1 h0
    subst hl0
    refine (Tryd.slices_Sort_string_none none 0 w).mono ?_
    rintro e w' ⟨rfl, rfl⟩
    have e0 : sortB [] = [] := by unfold sortB bytesL; rw [List.map_nil, List.mergeSort_nil, List.map_nil]
    exact ⟨rfl, by rw [e0]; exact hR, .refl _ _⟩
  · subst h1
    refine (slices_Sort_string.callsR g cap base ok l w hR hl).mono ?_
    rintro e w' ⟨rfl, h2, h3, _⟩
    exact ⟨rfl, h2, h3⟩
theorem slices_Compact_string.callsV (base : Nat) (ok : Nat → Prop) (v : Value) (l : List ByteArray) (w : World) (hR : Kd.R Kd.string 9 w base ok v l) (hl : l.length ≤ 1048576) :
    Calls Tryd.prog 57 #[v] w fun e w' => ∃ u : Value, e = .returned u ∧ Kd.R Kd.string 9 w' base ok u (compactB l) ∧ w.grownBy w' v.ownBlock := by
  have ho := Kd.own_of_R hR
  have hbk := ho.2
  rcases hbk with ⟨h1, h0⟩ | ⟨g, cap, cur, h1, hbase, hb, hn, hc, hs, ht⟩
  · subst h1
    have hl0 : l = [] := List.length_eq_zero_iff.1 h0
    subst hl0
    refine (Tryd.slices_Compact_string_empty none 0 w).mono ?_
    rintro e w' ⟨rfl, rfl⟩
    exact ⟨_, rfl, hR, .refl _ _⟩
  · subst h1
    have hlen := bytesL_len l
    have ht2 : cur.toList.take (bytesL l).length = (bytesL l).map encStr := by
      rw [bytesL_enc, hlen, ← Nat.mul_one l.length]
      exact ht
    have hcall := Tryd.slices_Compact_string g 0 cap (bytesL l) w (holds_of_block hb ht2) (by rw [hlen]; omega) (by rw [hlen]; exact hn)
    rw [hlen] at hcall
    refine hcall.mono ?_
    rintro e w' ⟨rfl, q, rfl⟩
    have hle : (compact (bytesL l)).length ≤ l.length := by have := compact_length_le (bytesL l); omega
    have hg : grow (putRow encStr (Sort.ahead w q) g 0 (compact (bytesL l) ++ List.replicate (l.length - (compact (bytesL l)).length) []).toArray) #[] = putRow encStr (Sort.ahead w q) g 0 (compact (bytesL l) ++ List.replicate (l.length - (compact (bytesL l)).length) []).toArray := by
      unfold grow
      rw [Array.append_empty]
    have h9 := ownsRow_sorted (w := w) (n := q) (os := #[]) (ss := bytesL l) (ts := compact (bytesL l) ++ List.replicate (l.length - (compact (bytesL l)).length) []) (cap := cap) (e := 9) (by rw [List.length_append, List.length_replicate]; omega) hbase hb (by rw [hlen]; exact hn) hc hs
    have h8 := grownBy_sorted (w := w) (g := g) (n := q) (os := #[]) (compact (bytesL l) ++ List.replicate (l.length - (compact (bytesL l)).length) []).toArray
    rw [hg] at h9 h8
    have hcl : (compactB l).length = (compact (bytesL l)).length := by unfold compactB ofL2; rw [List.length_map]
    refine ⟨_, rfl, ?_, h8⟩
    rw [← hcl]
    refine Kd.R_of_own (enc := Value.string) (h1 := fun _ => rfl) (xs := compactB l) ?_ (ok := ok) (fun k hk => hR.1 k hk)
    obtain ⟨p1, p2⟩ := h9
    rcases p2 with ⟨h1, _⟩ | ⟨g', cap', cur', h1, hbase', hb', hn', hc', hs', ht'⟩
    · cases h1
    · injection h1 with e1 e2 e3
      injection e1 with e1
      injection e1 with e1 _
      subst e1
      subst e3
      rw [hcl]
      refine ⟨by unfold encs; rw [List.length_map, hcl, Nat.mul_one], .inr ⟨g, cap, cur', rfl, hbase', hb', by rw [hlen] at hn'; omega, hc', hs', ?_⟩⟩
      rw [Nat.mul_one] at ht' ⊢
      have h7 : (cur'.toList.take (bytesL l).length).take (compact (bytesL l)).length = ((compact (bytesL l) ++ List.replicate (l.length - (compact (bytesL l)).length) []).map encStr).take (compact (bytesL l)).length := by rw [ht']
      rw [List.take_take, Nat.min_eq_left (by rw [hlen]; exact hle), List.map_append, List.take_append_of_le_length (by simp), List.take_of_length_le (show ((compact (bytesL l)).map encStr).length ≤ (compact (bytesL l)).length by simp)] at h7
      rw [h7]
      exact ofL2_enc _
def slices_Sort_string.f (l : List ByteArray) : Option (List ByteArray) := if l.length ≤ 1048576 then some (sortB l) else none
def slices_Compact_string.f (l : List ByteArray) : Option (List ByteArray) := if l.length ≤ 1048576 then some (compactB l) else none
theorem sort_some {l r : List ByteArray} (h : slices_Sort_string.f l = some r) : r = sortB l ∧ l.length ≤ 1048576 := by
  unfold slices_Sort_string.f at h
  split at h
  · cases h; exact ⟨rfl, by assumption⟩
  · cases h
theorem compact_some {l r : List ByteArray} (h : slices_Compact_string.f l = some r) : r = compactB l := by
  unfold slices_Compact_string.f at h
  split at h
  · cases h; rfl
  · cases h
theorem below_grownT {α : Type} {d : Kd α} {e : Nat} {ok : Nat → Prop} {W1 W W2 : World} {v : Value} {xs : List α} (hB : Below W1.heap.size W1 W) (hR : d.R e W W1.heap.size ok v xs) (hg : W.grownBy W2 v.ownBlock) : Below W1.heap.size W1 W2 :=
  hB.trans ⟨hg.os, hg.tape, hg.output, hg.size, fun k hk => hg.block k (Nat.lt_of_lt_of_le hk hB.size) (by intro h; have := ((Kd.R_bound hR).1 k h.symm).2.1; omega)⟩
end Go.Proofs.YtiapaggkbhdnkaaDoor.Q
