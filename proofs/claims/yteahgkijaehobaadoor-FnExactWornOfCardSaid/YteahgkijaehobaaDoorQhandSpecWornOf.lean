/- spec.WornOf is walked. -/
import Derived.Test.YteahgkijaehobaaDoorQpureWornOf
import Derived.Test.YteahgkijaehobaaDoorQspecl04Word
import Derived.Test.YteahgkijaehobaaDoorQspecl00In
import Derived.Outline
import Derived.Lib.Hide
namespace Go.Proofs.YteahgkijaehobaaDoor.Q
open Go.RowKit Go.Proofs.YteahgkijaehobaaDoorW.PrintWords Go.Proofs.YteahgkijaehobaaDoorW.PrintLast Go.Proofs.YteahgkijaehobaaDoorW.PrintMore
open Go.Proofs.YteahgkijaehobaaDoor.Pure Go.Proofs.YteahgkijaehobaaDoor.Bytes
set_option linter.unusedVariables false

def spec_WornOf.f (a0 : ByteArray) (l1 : List Int) : Option (ByteArray × Int) := some (wornOfM a0 l1)

set_option maxHeartbeats 1000000 in
theorem spec_WornOf.calls (a0 : ByteArray) (A1 : Option Addr) (c1 : Nat) (l1 : List Int) (r1 : ByteArray) (r2 : Int) (w : World) (hr1 : Kd.C (Kd.int .i64) w A1 l1.length l1) (hc1 : l1.length ≤ c1) (h : spec_WornOf.f a0 l1 = some (r1, r2)) :
    Calls Tryd.prog 21 #[.string a0, .slice A1 l1.length c1] w fun e w' => e = .returned (.tuple #[.string r1, .int .i64 r2]) ∧ Below w.heap.size w w' := by
  replace h := Option.some.inj h
  unfold wornOfM at h
  have hm := Kd.C_max hr1
  have HR := Lib.hid hr1
  clear hr1
  have hword := fun W => spec_l04Word.calls 21 a0 (shortB a0) W (spec_l04Word.valM a0 21 (by omega))
  cases hs : shortB a0 with
  | false =>
    rw [hs] at hword h
    simp only [Bool.false_eq_true, if_false, Prod.mk.injEq] at h
    obtain ⟨rfl, rfl⟩ := h
    go_enter Tryd.func21, Tryd.ntmps21
    go_wp2_with (refine (hword _).mono ?_; rintro e w' ⟨rfl, nd, rfl⟩)
    go_ret2
    exact ⟨rfl, pw_below_drewN (Below.refl _ _) _⟩
  | true =>
    have hsz := shortB_size hs
    rw [hs] at hword h
    simp only [if_true] at h
    have H := Lib.hid h
    clear h hs
    have hcv := fun W => Lib.run_convert_string_bytes (P := Tryd.prog) W 9 62 5 a0 (u := .string) Tryd.underlying9 Tryd.underlying62 Tryd.underlying5
    have hin := fun i W => spec_l00In.calls i 0 ((a0.size : Int) - 1) (inB a0 i) W (by unfold spec_l00In.f inB; by_cases h : 0 ≤ i <;> simp [h])
    go_enter Tryd.func21, Tryd.ntmps21
    go_wp2_with (refine (hword _).mono ?_; rintro e w' ⟨rfl, nd, rfl⟩)
    go_loopw [7] (fun i wr => ∃ k : Nat, k ≤ l1.length ∧ i = .int .i64 k ∧ BRow 5 wr w.heap.size (grownCap (w.drewN nd) a0.size 0 5) (goneB a0 l1 k) ∧ RowKit.Hid (Below w.heap.size w wr) ∧ RowKit.Hid ((l1.take k).all (inB a0) = true)) (fun i _ => l1.length - (intOf i).toNat)
    case atStart => exact ⟨0, Nat.zero_le _, rfl, by rw [goneB_zero]; exact made (w.drewN nd) _ a0 (grownCap_ge (w.drewN nd) a0.size 0 _), Lib.hid (below_step (pw_below_drewN (Below.refl _ w) nd) (below_bytes (w.drewN nd) _ a0)), Lib.hid (by simp)⟩
    case round =>
      obtain ⟨k, hk, rfl, hB, HB, HA⟩ := hrel
      by_cases hlt : k < l1.length
      · have hlt2 : (k : Int) < (l1.length : Int) := by omega
        obtain ⟨ad, rfl, hx⟩ := Kd.at_int (Kd.C_below HR.out HB.out) k (by omega) (by omega)
        simp only [Int.toNat_natCast] at hx
        have Y := Lib.hid (rd_get l1 k hlt)
        have hcall := fun W => hin (rd l1 k) W
        cases hq : inB a0 (rd l1 k) with
        | true =>
          obtain ⟨q0, q1⟩ := inB_iff.1 hq
          have Q := Lib.hid hq
          rw [hq] at hcall
          clear hq hin
          obtain ⟨m, hm2⟩ : ∃ m : Nat, rd l1 k = m := ⟨(rd l1 k).toNat, by omega⟩
          rw [hm2] at hx hcall q0 q1
          have M := Lib.hid hm2
          clear hm2 q0
          have hz := hB.frozen m (by rw [goneB_len]; omega)
          have hy := hB.cell m (by rw [goneB_len]; omega)
          go_wp2_with (refine (hcall _).mono ?_; rintro e w' ⟨rfl, nd, rfl⟩)
          go_roundw
          case measure => simp only [intOf]; omega
          case rel => exact ⟨k + 1, by omega, by go_num, by rw [goneB_step a0 l1 k hlt, ← Y.out, M.out, Int.toNat_natCast]; exact (hB.drewN nd).set m (by rw [goneB_len]; omega) 46, Lib.hid ((pw_below_drewN HB.out _).setCell (Nat.le_refl _) _), Lib.hid (by rw [List.take_succ_eq_append_getElem hlt, List.all_append, HA.out, ← Y.out]; simp [Q.out])⟩
        | false =>
          have hno : l1.all (inB a0) = false := by
            rw [List.all_eq_false]
            exact ⟨l1[k], List.getElem_mem hlt, by rw [← Y.out, hq]; simp⟩
          have h := H.out
          rw [hno] at h
          simp only [Bool.false_eq_true, if_false, Prod.mk.injEq] at h
          obtain ⟨rfl, rfl⟩ := h
          rw [hq] at hcall
          clear hq hin hno
          go_wp2_with (refine (hcall _).mono ?_; rintro e w' ⟨rfl, nd, rfl⟩)
          go_ret2
          exact ⟨rfl, pw_below_drewN HB.out _⟩
      · have hlt2 : ¬ (k : Int) < (l1.length : Int) := by omega
        have h := H.out
        have ha := HA.out
        have E : k = l1.length := by omega
        rw [List.take_of_length_le (by omega)] at ha
        rw [if_pos ha] at h
        simp only [Prod.mk.injEq] at h
        obtain ⟨rfl, rfl⟩ := h
        rw [E] at hB
        clear E
        have hstr := hB.string (P := Tryd.prog) (src := 62) Tryd.underlying62 Tryd.underlying5 Tryd.underlying9 (grownCap (w.drewN nd) a0.size 0 5) a0.size (goneB_len _ _ _)
        clear ha hin
        go_wp2
        go_ret2
        exact ⟨rfl, HB.out⟩
end Go.Proofs.YteahgkijaehobaaDoor.Q
