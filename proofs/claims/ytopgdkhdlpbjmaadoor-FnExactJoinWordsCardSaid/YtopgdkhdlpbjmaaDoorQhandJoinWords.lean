/- impl.JoinWords is walked. -/
import Derived.Test.YtopgdkhdlpbjmaaDoorQlibJ
import Derived.Test.YtopgdkhdlpbjmaaDoorQhandFunc
import Derived.Test.YtopgdkhdlpbjmaaDoorQpureWord
import Derived.Test.YtopgdkhdlpbjmaaDoorQimplJoinWords1
namespace Go.Proofs.YtopgdkhdlpbjmaaDoor.Q
open Go.RowKit Go.Proofs.YtopgdkhdlpbjmaaDoorW.PrintWords Go.Proofs.YtopgdkhdlpbjmaaDoorW.PrintLast Go.Proofs.YtopgdkhdlpbjmaaDoorW.PrintMore
set_option linter.unusedVariables false

/-- A word that the program takes. -/
def word60 (a : ByteArray) : Bool := wordB a && decide ((a.size : Int) ≤ 60)
def blank : ByteArray := ⟨#[32]⟩
def joinM (l : List ByteArray) : ByteArray × Int := if textB (joinB l blank) = true then (if l.all word60 = true then (joinB l blank, 0) else (⟨#[]⟩, 1)) else (⟨#[]⟩, 1)
def impl_JoinWords.f (l : List ByteArray) : Option (ByteArray × Int) := if l.length ≤ 1048576 then (if l.all (fun x => decide (x.size ≤ 1048576)) = true then some (joinM l) else none) else none

theorem any_word (l : List ByteArray) : (l.any fun x => !word60 x) = !l.all word60 := by
  rw [← List.not_all_eq_any_not]

set_option maxHeartbeats 1000000 in
theorem impl_JoinWords.calls (A0 : Option Addr) (c0 : Nat) (l0 : List ByteArray) (r1 : ByteArray) (r2 : Int) (w : World) (hG_ : Glob w) (hr0 : Kd.C Kd.string w A0 l0.length l0) (hc0 : l0.length ≤ c0) (h : impl_JoinWords.f l0 = some (r1, r2)) :
    Calls Tryd.prog 19 #[.slice A0 l0.length c0] w fun e w' => e = .returned (.tuple #[.string r1, .int .i64 r2]) ∧ Below w.heap.size w w' := by
  unfold impl_JoinWords.f at h
  by_cases h1 : l0.length ≤ 1048576
  rotate_left
  · rw [if_neg h1] at h; cases h
  rw [if_pos h1] at h
  by_cases h2 : l0.all (fun x => decide (x.size ≤ 1048576)) = true
  rotate_left
  · rw [if_neg h2] at h; cases h
  rw [if_pos h2] at h
  replace h := Option.some.inj h
  unfold joinM at h
  have hfine : joinFine l0 := ⟨h1, fun x hx => of_decide_eq_true (List.all_eq_true.1 h2 x hx)⟩
  have HJ := Lib.hid (strings_Join.calls A0 c0 l0 blank w hr0 hc0 hfine (by decide))
  have HR := Lib.hid hr0
  have HG := Lib.hid hG_
  clear hr0 hG_ h2 hfine
  have HT := Lib.hid (fun (W : World) (hW : Below w.heap.size w W) => impl_ValidText.calls 61 (joinB l0 blank) (textB (joinB l0 blank)) W (HG.out.step hW) (impl_ValidText.valM _ 61 (by omega)))
  have hcf := fun (W : World) (hW : Below w.heap.size w W) => contains_func_string 44 #[] (fun x => !word60 x) l0 A0 c0 W (enters_of Tryd.func44 (by kernel_rfl) rfl) (Kd.C_below HR.out hW)
    (fun x hx V hV => (impl_JoinWords_1.calls 61 x (!word60 x) V (HG.out.step (below_step hW hV)) (by unfold impl_JoinWords_1.f; rw [impl_isWord.valM x 61 (by omega)]; rfl)).mono fun e w' ⟨he, hb⟩ => ⟨he, below_step hV hb⟩)
  rw [any_word] at hcf
  unfold blank at HJ HT h
  generalize joinB l0 ⟨#[32]⟩ = t at HJ HT h
  cases ht : textB t with
  | false =>
    rw [ht] at HT h
    simp only [Bool.false_eq_true, if_false, Prod.mk.injEq] at h
    obtain ⟨rfl, rfl⟩ := h
    clear ht hcf
    go_enter Tryd.func19, Tryd.ntmps19
    go_wp2_with (first | (refine HJ.out.mono ?_; rintro e w1 ⟨rfl, hb⟩; have HB := Lib.hid hb; clear hb) | (refine (HT.out _ HB.out).mono ?_; rintro e w2 ⟨rfl, hb⟩; have HB2 := Lib.hid (below_step HB.out hb); clear hb))
    go_ret2
    exact ⟨rfl, HB2.out⟩
  | true =>
    rw [ht] at HT h
    simp only [if_true] at h
    clear ht
    cases ha : l0.all word60 with
    | false =>
      rw [ha] at hcf h
      have HC := Lib.hid hcf
      simp only [Bool.false_eq_true, if_false, Prod.mk.injEq] at h
      obtain ⟨rfl, rfl⟩ := h
      clear ha hcf
      go_enter Tryd.func19, Tryd.ntmps19
      go_wp2_with (first | (refine HJ.out.mono ?_; rintro e w1 ⟨rfl, hb⟩; have HB := Lib.hid hb; clear hb) | (refine (HT.out _ HB.out).mono ?_; rintro e w2 ⟨rfl, hb⟩; have HB2 := Lib.hid (below_step HB.out hb); clear hb) | (refine (HC.out _ HB2.out).mono ?_; rintro e w3 ⟨rfl, hb⟩; have HB3 := Lib.hid (below_step HB2.out hb); clear hb))
      go_ret2
      exact ⟨rfl, HB3.out⟩
    | true =>
      rw [ha] at hcf h
      have HC := Lib.hid hcf
      simp only [if_true, Prod.mk.injEq] at h
      obtain ⟨rfl, rfl⟩ := h
      clear ha hcf
      go_enter Tryd.func19, Tryd.ntmps19
      go_wp2_with (first | (refine HJ.out.mono ?_; rintro e w1 ⟨rfl, hb⟩; have HB := Lib.hid hb; clear hb) | (refine (HT.out _ HB.out).mono ?_; rintro e w2 ⟨rfl, hb⟩; have HB2 := Lib.hid (below_step HB.out hb); clear hb) | (refine (HC.out _ HB2.out).mono ?_; rintro e w3 ⟨rfl, hb⟩; have HB3 := Lib.hid (below_step HB2.out hb); clear hb))
      go_ret2
      exact ⟨rfl, HB3.out⟩
end Go.Proofs.YtopgdkhdlpbjmaaDoor.Q
