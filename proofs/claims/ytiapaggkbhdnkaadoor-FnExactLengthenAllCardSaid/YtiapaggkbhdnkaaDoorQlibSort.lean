/- slices.Sort over a row of texts of one's own, out of the shelf: it holds the same texts, in ascending order. -/
import Derived.Test.YtiapaggkbhdnkaaDoorQ0
import Derived.Test.YtiapaggkbhdnkaaDoorShelfJ
import Derived.Test.YtiapaggkbhdnkaaDoorQhandTwo
import Derived.Sort.OwnSorted
namespace Go.Proofs.YtiapaggkbhdnkaaDoor.Q
open Go.RowKit Go.Proofs.YtiapaggkbhdnkaaDoorW.PrintWords Go.Proofs.YtiapaggkbhdnkaaDoorW.PrintLast Go.Proofs.YtiapaggkbhdnkaaDoorW.PrintMore
open Go.Sort
set_option linter.unusedVariables false

def bytesL (l : List ByteArray) : List (List UInt8) := l.map (fun x => x.data.toList)
def sortB (l : List ByteArray) : List ByteArray := ((bytesL l).mergeSort fun x y => decide (x ≤ y)).map (fun b => (⟨b.toArray⟩ : ByteArray))
theorem sortB_len (l : List ByteArray) : (sortB l).length = l.length := by
  unfold sortB bytesL
  rw [List.length_map, List.length_mergeSort, List.length_map]
theorem bytesL_enc (l : List ByteArray) : (bytesL l).map encStr = l.map Value.string := by
  unfold bytesL
  rw [List.map_map]
  apply List.map_congr_left
  intro x _
  rfl
theorem sorted_enc (l : List ByteArray) : ((bytesL l).mergeSort fun x y => decide (x ≤ y)).map encStr = (sortB l).map Value.string := by
  unfold sortB
  rw [List.map_map]
  rfl
theorem slices_Sort_string.callsR (g c base : Nat) (ok : Nat → Prop) (l : List ByteArray) (w : World) (hR : Kd.R Kd.string 9 w base ok (.slice (some ⟨g, 0, none⟩) l.length c) l) (hl : l.length ≤ 1048576) :
    Calls Tryd.prog 56 #[.slice (some ⟨g, 0, none⟩) l.length c] w fun e w' => e = .returned (.tuple #[]) ∧ Kd.R Kd.string 9 w' base ok (.slice (some ⟨g, 0, none⟩) l.length c) (sortB l) ∧ w.grownBy w' (some g) ∧ base ≤ g := by
  have ho := Kd.own_of_R hR
  have hbk := ho.2
  rcases hbk with ⟨h1, _⟩ | ⟨g', cap, cur, h1, hbase, hb, hn, hc, hs, ht⟩
  · cases h1
  injection h1 with e1 e2 e3
  injection e1 with e1
  injection e1 with e1 _
  subst e1
  subst e3
  have ht2 : cur.toList.take (bytesL l).length = (bytesL l).map encStr := by
    rw [bytesL_enc, show (bytesL l).length = l.length * 1 by unfold bytesL; rw [List.length_map, Nat.mul_one]]
    exact ht
  have hlen : (bytesL l).length = l.length := by unfold bytesL; rw [List.length_map]
  have hcall := Tryd.slices_Sort_string g 0 c (bytesL l) w (holds_of_block hb ht2) (Array.getElem?_eq_some_iff.1 hb).1 (by rw [hlen]; omega)
  rw [hlen] at hcall
  refine hcall.mono ?_
  rintro e w' ⟨rfl, n, os, rfl⟩
  refine ⟨rfl, ?_, grownBy_sorted _, hbase⟩
  have h9 := ownsRow_sorted (w := w) (n := n) (os := os) (ss := bytesL l) (ts := (bytesL l).mergeSort fun x y => decide (x ≤ y)) (cap := c) (e := 9) (by rw [List.length_mergeSort]) hbase hb (by rw [hlen]; exact hn) hc hs
  rw [sorted_enc, hlen, ← sortB_len l] at h9
  have h10 := Kd.R_of_own (enc := Value.string) (h1 := fun _ => rfl) (xs := sortB l) h9 (ok := ok) (fun k hk => hR.1 k hk)
  rw [sortB_len] at h10
  exact h10
end Go.Proofs.YtiapaggkbhdnkaaDoor.Q
