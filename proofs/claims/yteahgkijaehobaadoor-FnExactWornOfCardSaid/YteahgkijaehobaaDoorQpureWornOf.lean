/- A word of which some letters are gone. -/
import Derived.Test.YteahgkijaehobaaDoorQpureWord
import Derived.Test.YteahgkijaehobaaDoorBytes
namespace Go.Proofs.YteahgkijaehobaaDoor.Q
open Go.RowKit Go.Proofs.YteahgkijaehobaaDoorW.PrintWords Go.Proofs.YteahgkijaehobaaDoorW.PrintLast Go.Proofs.YteahgkijaehobaaDoorW.PrintMore
open Go.Proofs.YteahgkijaehobaaDoor.Pure Go.Proofs.YteahgkijaehobaaDoor.Bytes
set_option linter.unusedVariables false

def inB (a : ByteArray) (i : Int) : Bool := decide (0 ≤ i) && decide (i ≤ (a.size : Int) - 1)
/-- The bytes after the first j of the places are gone. -/
def goneB (a : ByteArray) (l : List Int) (j : Nat) : List Int := (l.take j).foldl (fun b i => b.set i.toNat 46) (bytesOf a)
def wornOfM (a : ByteArray) (l : List Int) : ByteArray × Int :=
  if shortB a = true then (if l.all (inB a) = true then (strOfNums (goneB a l l.length), 0) else (⟨#[]⟩, 2)) else (⟨#[]⟩, 1)

theorem goneB_len (a : ByteArray) (l : List Int) (j : Nat) : (goneB a l j).length = a.size := by
  unfold goneB
  have : ∀ (m : List Int) (b : List Int), (m.foldl (fun b i => b.set i.toNat 46) b).length = b.length := by
    intro m
    induction m with
    | nil => intro b; rfl
    | cons x m ih => intro b; rw [List.foldl_cons, ih, List.length_set]
  rw [this, bytesOf_length]
theorem goneB_zero (a : ByteArray) (l : List Int) : goneB a l 0 = bytesOf a := rfl
theorem goneB_step (a : ByteArray) (l : List Int) (j : Nat) (h : j < l.length) : goneB a l (j + 1) = (goneB a l j).set (l[j].toNat) 46 := by
  unfold goneB
  rw [List.take_succ_eq_append_getElem h, List.foldl_append]
  rfl
theorem shortB_size {a : ByteArray} (h : shortB a = true) : a.size ≤ 20 := by
  unfold shortB at h
  simp only [Bool.and_eq_true, decide_eq_true_iff] at h
  omega
theorem inB_iff {a : ByteArray} {i : Int} : inB a i = true ↔ 0 ≤ i ∧ i < a.size := by
  unfold inB
  simp only [Bool.and_eq_true, decide_eq_true_iff]
  omega
end Go.Proofs.YteahgkijaehobaaDoor.Q
