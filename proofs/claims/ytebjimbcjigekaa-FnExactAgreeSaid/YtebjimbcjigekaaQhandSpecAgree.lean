/- spec.Agree is walked: what the reference answers for two worn words. -/
import Derived.Test.YtebjimbcjigekaaQhandAgree
import Derived.Test.YtebjimbcjigekaaQpureWorn
namespace Go.Proofs.Ytebjimbcjigekaa.Q
open Go.RowKit Go.Proofs.YtebjimbcjigekaaW.PrintWords Go.Proofs.YtebjimbcjigekaaW.PrintLast Go.Proofs.YtebjimbcjigekaaW.PrintMore
open Go.Proofs.Ytebjimbcjigekaa.Bytes
set_option linter.unusedVariables false

def agreeV (a b : ByteArray) : ByteArray × Int :=
  if wornB a = true then (if wornB b = true then (if a.size = b.size then (if fineB a b a.size = true then (strOfNums (outB a b a.size), 0) else (⟨#[]⟩, 4)) else (⟨#[]⟩, 4)) else (⟨#[]⟩, 5)) else (⟨#[]⟩, 5)
def spec_Agree.f (a b : ByteArray) : Option (ByteArray × Int) := if a.size ≤ 9223372036854775807 ∧ b.size ≤ 9223372036854775807 then some (agreeV a b) else none

set_option maxHeartbeats 2000000 in
theorem spec_Agree.calls (a0 a1 r1 : ByteArray) (r2 : Int) (w : World) (h : spec_Agree.f a0 a1 = some (r1, r2)) :
    Calls Try.prog 14 #[.string a0, .string a1] w fun e w' => e = .returned (.tuple #[.string r1, .int .i64 r2]) ∧ Below w.heap.size w w' := by
  unfold spec_Agree.f at h
  by_cases hs0 : a0.size ≤ 9223372036854775807 ∧ a1.size ≤ 9223372036854775807
  rotate_left
  · rw [if_neg hs0] at h; cases h
  rw [if_pos hs0] at h
  obtain ⟨hs, hs1⟩ := hs0
  have h := Option.some.inj h
  unfold agreeV at h
  have KA := fun W => spec_l04Worn.calls (a0.size + 1) a0 (wornB a0) W (spec_l04Worn.val a0 hs)
  have KB := fun W => spec_l04Worn.calls (a1.size + 1) a1 (wornB a1) W (spec_l04Worn.val a1 hs1)
  have KA := Lib.hid KA
  have KB := Lib.hid KB
  clear hs1
  cases hwa : wornB a0
  · rw [hwa] at h KA
    simp only [Bool.false_eq_true, if_false, Prod.mk.injEq] at h
    obtain ⟨rfl, rfl⟩ := h
    clear hwa
    go_enter Try.func14, Try.ntmps14
    go_wp2_with (go_at_call 24; (with_reducible refine (KA.out _).mono ?_); rintro e w' ⟨rfl, ⟨nd, rfl⟩⟩)
    go_ret2
    exact ⟨rfl, pw_below_drewN (Below.refl _ _) _⟩
  rw [hwa] at h KA
  clear hwa
  cases hwb : wornB a1
  · rw [hwb] at h KB
    simp only [Bool.false_eq_true, if_false, if_true, Prod.mk.injEq] at h
    obtain ⟨rfl, rfl⟩ := h
    clear hwb
    go_enter Try.func14, Try.ntmps14
    go_wp2_with fail
    (with_reducible refine (KA.out _).mono ?_); rintro e w' ⟨rfl, ⟨nd, rfl⟩⟩
    go_wp2_with fail
    (with_reducible refine (KB.out _).mono ?_); rintro e w' ⟨rfl, ⟨nd2, rfl⟩⟩
    go_wp2
    go_ret2
    exact ⟨rfl, by repeat (first | exact Below.refl _ _ | apply pw_below_drewN)⟩
  rw [hwb] at h KB
  clear hwb
  simp only [if_true] at h
  by_cases hl : a0.size = a1.size
  · rw [if_pos hl] at h
    have hn : ((a0.size : Int) != (a1.size : Int)) = false := by simp [hl]
    have hcv := fun W => Lib.run_convert_string_bytes (P := Try.prog) W 9 51 5 a0 (u := .string) Try.underlying9 Try.underlying51 Try.underlying5
    have HL := Lib.hid hl
    clear hl
    go_enter Try.func14, Try.ntmps14
    go_wp2_with fail
    (with_reducible refine (KA.out _).mono ?_); rintro e w' ⟨rfl, ⟨nd, rfl⟩⟩
    go_wp2_with fail
    (with_reducible refine (KB.out _).mono ?_); rintro e w' ⟨rfl, ⟨nd2, rfl⟩⟩
    go_wp2
    go_loopw [7] (fun i wr => ∃ k : Nat, k ≤ a0.size ∧ i = .int .i64 k ∧ BRow 5 wr w.heap.size (grownCap (w.drewN (nd + nd2)) a0.size 0 5) (outB a0 a1 k) ∧ Below w.heap.size w wr ∧ fineB a0 a1 k = true) (fun i _ => a0.size - (intOf i).toNat)
    case atStart => exact ⟨0, Nat.zero_le _, rfl, by rw [outB_zero]; exact made (w.drewN (nd + nd2)) _ a0 (grownCap_ge _ a0.size 0 _), below_then (pw_below_drewN (Below.refl _ _) _) (Nat.le_refl _) (below_bytes (w.drewN (nd + nd2)) _ a0), by simp [fineB]⟩
    case round =>
      obtain ⟨k, hk, rfl, hB, hb, hf⟩ := hrel
      by_cases hlt : k < a0.size
      · have hx := hB.cell k (by rw [outB_len]; exact hlt)
        rw [outB_here a0 a1 k hlt] at hx
        have hz := hB.frozen k (by rw [outB_len]; exact hlt)
        have hlt1 : k < a1.size := by have := HL.out; omega
        have hy := bt_at a1 k
        have hy0 := bt_at a0 k
        simp only [Int.toNat_natCast] at hy hy0
        have HF := Lib.hid hf
        clear hf
        by_cases c1 : bt a0 k = 46
        · have t1 : (bt a0 k == 46) = true := beq_iff_eq.2 c1
          have t1' : (bt a0 k != 46) = false := bne_eq_false_iff_eq.2 c1
          have C1 := Lib.hid c1
          clear c1
          go_wp2
          go_quiet (fail)
          go_wp2
          go_roundw
          case rel => exact ⟨k + 1, by omega, by go_num, by rw [outB_step a0 a1 k hlt (bt a1 k) (by unfold mergeB; rw [if_pos C1.out])]; exact (hB.drewN _).set k (by rw [outB_len]; exact hlt) _, (pw_below_drewN hb _).setCell (Nat.le_refl _) _, by rw [fineB_step, HF.out]; simp [mergeB, C1.out]⟩
          case measure => simp [intOf]; omega
        · have t1 : (bt a0 k == 46) = false := beq_eq_false_iff_ne.2 c1
          have t1' : (bt a0 k != 46) = true := bne_iff_ne.2 c1
          by_cases c2 : bt a1 k = 46
          · have t2 : (bt a1 k != 46) = false := bne_eq_false_iff_eq.2 c2
            have C2 := Lib.hid c2
            have C1 := Lib.hid c1
            clear c1 c2
            go_wp2
            go_quiet (fail)
            go_wp2
            go_roundw
            case rel => exact ⟨k + 1, by omega, by go_num, by rw [outB_same a0 a1 k hlt (by unfold mergeB; rw [if_neg C1.out, if_pos C2.out])]; exact hB.drewN _, pw_below_drewN hb _, by rw [fineB_step, HF.out]; simp [mergeB, C1.out, C2.out]⟩
            case measure => simp [intOf]; omega
          · have t2 : (bt a1 k != 46) = true := bne_iff_ne.2 c2
            by_cases c3 : bt a1 k = bt a0 k
            · have t3 : (bt a0 k != bt a1 k) = false := bne_eq_false_iff_eq.2 c3.symm
              have C2 := Lib.hid c2
              have C1 := Lib.hid c1
              have C3 := Lib.hid c3
              clear c1 c2 c3
              go_wp2
              go_quiet (fail)
              go_wp2
              go_roundw
              case rel => exact ⟨k + 1, by omega, by go_num, by rw [outB_same a0 a1 k hlt (by unfold mergeB; rw [if_neg C1.out, if_neg C2.out, if_pos C3.out])]; exact hB.drewN _, pw_below_drewN hb _, by rw [fineB_step, HF.out]; simp [mergeB, C1.out, C3.out]⟩
              case measure => simp [intOf]; omega
            · have t3 : (bt a0 k != bt a1 k) = true := bne_iff_ne.2 (Ne.symm c3)
              have hno : fineB a0 a1 a0.size = false := fineB_not a0 a1 k _ hlt (by unfold mergeB; rw [if_neg c1, if_neg c2, if_neg c3])
              rw [if_neg (by rw [hno]; simp)] at h
              simp only [Prod.mk.injEq] at h
              obtain ⟨rfl, rfl⟩ := h
              have C2 := Lib.hid c2
              have C1 := Lib.hid c1
              have C3 := Lib.hid c3
              clear c1 c2 c3 hno
              go_wp2
              go_quiet (fail)
              go_wp2
              go_ret2
              exact ⟨rfl, pw_below_drewN hb _⟩
      · obtain rfl : k = a0.size := by omega
        rw [if_pos hf] at h
        simp only [Prod.mk.injEq] at h
        obtain ⟨rfl, rfl⟩ := h
        have hstr := hB.string (P := Try.prog) (src := 51) Try.underlying51 Try.underlying5 Try.underlying9 (grownCap (w.drewN (nd + nd2)) a0.size 0 5) a0.size (outB_len _ _ _)
        clear hf
        go_wp2
        go_ret2
        exact ⟨rfl, hb⟩
  · rw [if_neg hl] at h
    have hn : ((a0.size : Int) != (a1.size : Int)) = true := by simp; omega
    simp only [Prod.mk.injEq] at h
    obtain ⟨rfl, rfl⟩ := h
    go_enter Try.func14, Try.ntmps14
    go_wp2_with fail
    (with_reducible refine (KA.out _).mono ?_); rintro e w' ⟨rfl, ⟨nd, rfl⟩⟩
    go_wp2_with fail
    (with_reducible refine (KB.out _).mono ?_); rintro e w' ⟨rfl, ⟨nd2, rfl⟩⟩
    go_wp2
    go_ret2
    exact ⟨rfl, by repeat (first | exact Below.refl _ _ | apply pw_below_drewN)⟩
end Go.Proofs.Ytebjimbcjigekaa.Q
