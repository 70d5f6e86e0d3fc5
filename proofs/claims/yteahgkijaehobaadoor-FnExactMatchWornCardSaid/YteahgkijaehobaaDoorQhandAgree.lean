/- impl.agree is walked: two worn words are laid together, letter by letter. -/
import Derived.Test.YteahgkijaehobaaDoorQ0
import Derived.Test.YteahgkijaehobaaDoorBytes
import Derived.Outline
import Derived.Lib.Hide
namespace Go.Proofs.YteahgkijaehobaaDoor.Q
open Go.RowKit Go.Proofs.YteahgkijaehobaaDoorW.PrintWords Go.Proofs.YteahgkijaehobaaDoorW.PrintLast Go.Proofs.YteahgkijaehobaaDoorW.PrintMore
open Go.Proofs.YteahgkijaehobaaDoor.Bytes
set_option linter.unusedVariables false

def mergeB (x y : Int) : Option Int := if x = 46 then some y else if y = 46 then some x else if y = x then some x else none
def outB (a b : ByteArray) (i : Nat) : List Int := (List.range a.size).map fun j => if j < i then (mergeB (bt a j) (bt b j)).getD 0 else bt a j
def fineB (a b : ByteArray) (i : Nat) : Bool := (List.range i).all fun j => (mergeB (bt a j) (bt b j)).isSome
def agreeM (a b : ByteArray) : ByteArray × Bool :=
  if a.size = b.size then (if fineB a b a.size = true then (strOfNums (outB a b a.size), true) else (⟨#[]⟩, false)) else (⟨#[]⟩, false)
def impl_agree.f (a b : ByteArray) : Option (ByteArray × Bool) := if a.size ≤ 9223372036854775807 then some (agreeM a b) else none

theorem outB_len (a b : ByteArray) (i : Nat) : (outB a b i).length = a.size := by simp [outB]
theorem outB_get (a b : ByteArray) (i j : Nat) (h : j < a.size) : (outB a b i).getD j 0 = if j < i then (mergeB (bt a j) (bt b j)).getD 0 else bt a j := by
  simp [outB, List.getD_eq_getElem?_getD, h]
theorem outB_here (a b : ByteArray) (i : Nat) (h : i < a.size) : (outB a b i).getD i 0 = bt a i := by rw [outB_get a b i i h, if_neg (by omega)]
theorem outB_step (a b : ByteArray) (i : Nat) (h : i < a.size) (x : Int) (hx : mergeB (bt a i) (bt b i) = some x) : outB a b (i + 1) = (outB a b i).set i x := by
  apply List.ext_getElem?
  intro j
  by_cases hj : j < a.size
  · by_cases hji : i = j
    · subst hji
      rw [List.getElem?_set_self (by rw [outB_len]; exact h)]
      simp [outB, h, hx]
    · rw [List.getElem?_set_ne hji]
      simp only [outB, List.getElem?_map, List.getElem?_range hj, Option.map_some]
      by_cases h1 : j < i
      · rw [if_pos h1, if_pos (by omega)]
      · rw [if_neg h1, if_neg (by omega)]
  · rw [List.getElem?_eq_none (by rw [outB_len]; omega), List.getElem?_eq_none (by rw [List.length_set, outB_len]; omega)]
theorem outB_same (a b : ByteArray) (i : Nat) (h : i < a.size) (hx : mergeB (bt a i) (bt b i) = some (bt a i)) : outB a b (i + 1) = outB a b i := by
  rw [outB_step a b i h _ hx]
  apply List.ext_getElem?
  intro j
  by_cases hji : i = j
  · subst hji
    rw [List.getElem?_set_self (by rw [outB_len]; exact h)]
    simp [outB, h]
  · rw [List.getElem?_set_ne hji]
theorem outB_zero (a b : ByteArray) : outB a b 0 = bytesOf a := by
  apply List.ext_getElem?
  intro j
  by_cases hj : j < a.size
  · rw [bytesOf_get a j hj]
    simp [outB, hj]
  · rw [List.getElem?_eq_none (by rw [outB_len]; omega), List.getElem?_eq_none (by rw [bytesOf_length]; omega)]
theorem fineB_step (a b : ByteArray) (i : Nat) : fineB a b (i + 1) = (fineB a b i && (mergeB (bt a i) (bt b i)).isSome) := by
  simp [fineB, List.range_succ]
theorem fineB_not (a b : ByteArray) (i n : Nat) (hi : i < n) (h : mergeB (bt a i) (bt b i) = none) : fineB a b n = false := by
  simp only [fineB, List.all_eq_false]
  exact ⟨i, List.mem_range.2 hi, by simp [h]⟩

set_option maxHeartbeats 1000000 in
theorem impl_agree.calls (a0 a1 r1 : ByteArray) (r2 : Bool) (w : World) (h : impl_agree.f a0 a1 = some (r1, r2)) :
    Calls Tryd.prog 80 #[.string a0, .string a1] w fun e w' => e = .returned (.tuple #[.string r1, .bool r2]) ∧ Below w.heap.size w w' := by
  unfold impl_agree.f at h
  by_cases hs : a0.size ≤ 9223372036854775807
  rotate_left
  · rw [if_neg hs] at h; cases h
  rw [if_pos hs] at h
  have h := Option.some.inj h
  unfold agreeM at h
  by_cases hl : a0.size = a1.size
  · rw [if_pos hl] at h
    have hn : ((a0.size : Int) != (a1.size : Int)) = false := by simp [hl]
    have hcv := fun W => Lib.run_convert_string_bytes (P := Tryd.prog) W 9 62 5 a0 (u := .string) Tryd.underlying9 Tryd.underlying62 Tryd.underlying5
    have HL := Lib.hid hl
    clear hl
    go_enter Tryd.func80, Tryd.ntmps80
    go_wp2
    go_loopw [17] (fun i wr => ∃ k : Nat, k ≤ a0.size ∧ i = .int .i64 k ∧ BRow 5 wr w.heap.size (grownCap w a0.size 0 5) (outB a0 a1 k) ∧ Below w.heap.size w wr ∧ fineB a0 a1 k = true) (fun i _ => a0.size - (intOf i).toNat)
    case atStart => exact ⟨0, Nat.zero_le _, rfl, by rw [outB_zero]; exact made w _ a0 (grownCap_ge w a0.size 0 _), below_bytes w _ a0, by simp [fineB]⟩
    case round =>
      obtain ⟨k, hk, rfl, hB, hb, hf⟩ := hrel
      by_cases hlt : k < a0.size
      · have hx := hB.cell k (by rw [outB_len]; exact hlt)
        rw [outB_here a0 a1 k hlt] at hx
        have hz := hB.frozen k (by rw [outB_len]; exact hlt)
        have hlt1 : k < a1.size := by have := HL.out; omega
        have hy := bt_at a1 k
        simp only [Int.toNat_natCast] at hy
        have HF := Lib.hid hf
        clear hf
        by_cases c1 : bt a0 k = 46
        · have t1 : (bt a0 k == 46) = true := beq_iff_eq.2 c1
          have C1 := Lib.hid c1
          clear c1
          go_wp2
          go_roundw
          case rel => exact ⟨k + 1, by omega, by go_num, by rw [outB_step a0 a1 k hlt (bt a1 k) (by unfold mergeB; rw [if_pos C1.out])]; exact hB.set k (by rw [outB_len]; exact hlt) _, hb.setCell (Nat.le_refl _) _, by rw [fineB_step, HF.out]; simp [mergeB, C1.out]⟩
          case measure => simp [intOf]; omega
        · have t1 : (bt a0 k == 46) = false := beq_eq_false_iff_ne.2 c1
          by_cases c2 : bt a1 k = 46
          · have t2 : (bt a1 k != 46) = false := bne_eq_false_iff_eq.2 c2
            have C2 := Lib.hid c2
            have C1 := Lib.hid c1
            clear c1 c2
            go_wp2
            go_quiet (fail)
            go_wp2
            go_roundw
            case rel => exact ⟨k + 1, by omega, by go_num, by rw [outB_same a0 a1 k hlt (by unfold mergeB; rw [if_neg C1.out, if_pos C2.out])]; exact hB.drewN _, pw_below_drewN hb _, by rw [fineB_step, HF.out]; simp [mergeB, C1.out, C2.out]⟩
            case measure => simp [intOf]; omega
          · have t2 : (bt a1 k != 46) = true := bne_iff_ne.2 c2
            by_cases c3 : bt a1 k = bt a0 k
            · have t3 : (bt a1 k != bt a0 k) = false := bne_eq_false_iff_eq.2 c3
              have C2 := Lib.hid c2
              have C1 := Lib.hid c1
              have C3 := Lib.hid c3
              clear c1 c2 c3
              go_wp2
              go_quiet (fail)
              go_wp2
              go_roundw
              case rel => exact ⟨k + 1, by omega, by go_num, by rw [outB_same a0 a1 k hlt (by unfold mergeB; rw [if_neg C1.out, if_neg C2.out, if_pos C3.out])]; exact hB.drewN _, pw_below_drewN hb _, by rw [fineB_step, HF.out]; simp [mergeB, C1.out, C3.out]⟩
              case measure => simp [intOf]; omega
            · have t3 : (bt a1 k != bt a0 k) = true := bne_iff_ne.2 c3
              have hno : fineB a0 a1 a0.size = false := fineB_not a0 a1 k _ hlt (by unfold mergeB; rw [if_neg c1, if_neg c2, if_neg c3])
              rw [if_neg (by rw [hno]; simp)] at h
              simp only [Prod.mk.injEq] at h
              obtain ⟨rfl, rfl⟩ := h
              have C2 := Lib.hid c2
              have C1 := Lib.hid c1
              have C3 := Lib.hid c3
              clear c1 c2 c3 hno
              go_wp2
              go_quiet (fail)
              go_wp2
              go_ret2
              exact ⟨rfl, pw_below_drewN hb _⟩
      · obtain rfl : k = a0.size := by omega
        rw [if_pos hf] at h
        simp only [Prod.mk.injEq] at h
        obtain ⟨rfl, rfl⟩ := h
        have hstr := hB.string (P := Tryd.prog) (src := 62) Tryd.underlying62 Tryd.underlying5 Tryd.underlying9 (grownCap w a0.size 0 5) a0.size (outB_len _ _ _)
        clear hf
        go_wp2
        go_ret2
        exact ⟨rfl, hb⟩
  · rw [if_neg hl] at h
    have hn : ((a0.size : Int) != (a1.size : Int)) = true := by simp; omega
    simp only [Prod.mk.injEq] at h
    obtain ⟨rfl, rfl⟩ := h
    go_enter Tryd.func80, Tryd.ntmps80
    go_wp2
    go_ret2
    exact ⟨rfl, Below.refl _ _⟩
end Go.Proofs.YteahgkijaehobaaDoor.Q
