/- impl.WornOf is walked. -/
import Derived.Test.YteahgkijaehobaaDoorQpureWornOf
import Derived.Test.YteahgkijaehobaaDoorQimplisShortWord
import Derived.Test.YteahgkijaehobaaDoorQimplwithin
import Derived.Test.YteahgkijaehobaaDoorQhandFunc
import Derived.Outline
import Derived.Lib.Hide
namespace Go.Proofs.YteahgkijaehobaaDoor.Q
open Go.RowKit Go.Proofs.YteahgkijaehobaaDoorW.PrintWords Go.Proofs.YteahgkijaehobaaDoorW.PrintLast Go.Proofs.YteahgkijaehobaaDoorW.PrintMore
open Go.Proofs.YteahgkijaehobaaDoor.Pure Go.Proofs.YteahgkijaehobaaDoor.Bytes
set_option linter.unusedVariables false

def impl_WornOf.f (a0 : ByteArray) (l1 : List Int) : Option (ByteArray × Int) := some (wornOfM a0 l1)

set_option maxHeartbeats 1000000 in
/-- The closure: a place outside the word, whose text lies in block g. -/
theorem impl_WornOf_1.calls (a0 : ByteArray) (ha : a0.size ≤ 9223372036854775807) (i : Int) (g : Nat) (w : World) (hx : w.cell? ⟨g, 0, none⟩ = some (.string a0)) :
    Calls Tryd.prog 62 #[.int .i64 i, .pointer (some ⟨g, 0, none⟩)] w fun e w' => e = .returned (.bool (!inB a0 i)) ∧ Below w.heap.size w w' := by
  have hin := fun W => impl_within.calls i 0 ((a0.size : Int) - 1) (inB a0 i) W (by unfold impl_within.f inB; by_cases h : 0 ≤ i <;> simp [h])
  generalize inB a0 i = q at hin ⊢
  go_enter Tryd.func62, Tryd.ntmps62
  go_wp2_with (refine (hin _).mono ?_; rintro e w' ⟨rfl, nd, rfl⟩)
  go_ret
  exact ⟨rfl, pw_below_drewN (Below.refl _ _) _⟩

theorem any_not {α : Type} (l : List α) (p : α → Bool) : (l.any fun x => !p x) = !l.all p := by
  rw [← List.not_all_eq_any_not]

set_option maxHeartbeats 1000000 in
theorem impl_WornOf.calls (a0 : ByteArray) (A1 : Option Addr) (c1 : Nat) (l1 : List Int) (r1 : ByteArray) (r2 : Int) (w : World) (hG_ : Glob w) (hr1 : Kd.C (Kd.int .i64) w A1 l1.length l1) (hc1 : l1.length ≤ c1) (h : impl_WornOf.f a0 l1 = some (r1, r2)) :
    Calls Tryd.prog 23 #[.string a0, .slice A1 l1.length c1] w fun e w' => e = .returned (.tuple #[.string r1, .int .i64 r2]) ∧ Below w.heap.size w w' := by
  replace h := Option.some.inj h
  unfold wornOfM at h
  have hm := Kd.C_max hr1
  have HR := Lib.hid hr1
  have HG := Lib.hid hG_
  clear hr1 hG_
  -- the world with the box
  have hb0 : ∀ cs, Below w.heap.size w (w.alloc (.cells cs 9)) := fun cs => below_alloc (Below.refl _ w) _
  have HB0 := Lib.hid hb0
  clear hb0
  have hword := fun cs => impl_isShortWord.calls 61 a0 (shortB a0) (w.alloc (.cells cs 9)) (HG.out.step (HB0.out cs)) (impl_isShortWord.valM a0 61 (by omega))
  cases hs : shortB a0 with
  | false =>
    rw [hs] at hword h
    simp only [Bool.false_eq_true, if_false, Prod.mk.injEq] at h
    obtain ⟨rfl, rfl⟩ := h
    go_enter Tryd.func23, Tryd.ntmps23
    go_wp2_with (refine (hword _).mono ?_; rintro e w' ⟨rfl, hb⟩)
    go_ret2
    exact ⟨rfl, below_step (HB0.out _) hb⟩
  | true =>
    have hsz := shortB_size hs
    rw [hs] at hword h
    simp only [if_true] at h
    have H := Lib.hid h
    clear h hs
    have hcv := fun W => Lib.run_convert_string_bytes (P := Tryd.prog) W 9 62 5 a0 (u := .string) Tryd.underlying9 Tryd.underlying62 Tryd.underlying5
    go_enter Tryd.func23, Tryd.ntmps23
    go_wp2_with (refine (hword _).mono ?_; rintro e w1 ⟨rfl, hb⟩)
    have hbw := below_step (HB0.out _) hb
    have hx1 : w1.cell? ⟨w.heap.size, 0, none⟩ = some (.string a0) := by
      rw [hb.cell (by show w.heap.size < _; simp)]
      exact World.cell?_alloc_mark w #[.string a0] 9 (0, 0) 0
    have hlt1 : w.heap.size < w1.heap.size := by
      have := hb.size
      simp at this
      omega
    have HBW := Lib.hid hbw
    have HX := Lib.hid hx1
    have HL := Lib.hid hlt1
    clear hb hbw hx1 hlt1 hword
    have hcf := contains_func_int64 62 #[.pointer (some ⟨w.heap.size, 0, none⟩)] (fun x => !inB a0 x) l1 A1 c1 w1 (enters_of Tryd.func62 (by kernel_rfl) rfl) (Kd.C_below HR.out HBW.out)
      (fun x _ W hW => (impl_WornOf_1.calls a0 (by omega) x w.heap.size W (by rw [hW.cell (by show w.heap.size < _; exact HL.out)]; exact HX.out)).mono fun e w' ⟨he, hb⟩ => ⟨he, below_step hW hb⟩)
    rw [any_not] at hcf
    cases ha : l1.all (inB a0) with
    | false =>
      rw [ha] at hcf
      have h := H.out
      rw [ha] at h
      simp only [Bool.false_eq_true, if_false, Prod.mk.injEq] at h
      obtain ⟨rfl, rfl⟩ := h
      clear ha
      refine hcf.mono ?_
      rintro e w2 ⟨rfl, hb⟩
      go_wp2
      go_ret2
      exact ⟨rfl, below_step HBW.out hb⟩
    | true =>
      rw [ha] at hcf
      have h := H.out
      rw [ha] at h
      simp only [if_true, Prod.mk.injEq] at h
      obtain ⟨rfl, rfl⟩ := h
      have HA := Lib.hid ha
      clear ha
      refine hcf.mono ?_
      rintro e w2 ⟨rfl, hb⟩
      have HB2 := Lib.hid (below_step HBW.out hb)
      have hx2 : w2.cell? ⟨w.heap.size, 0, none⟩ = some (.string a0) := by
        rw [hb.cell (by show w.heap.size < _; exact HL.out)]
        exact HX.out
      have HC := Lib.hid hcf
      clear hb hcf
      go_wp2
      go_loopw [21] (fun i wr => ∃ k : Nat, k ≤ l1.length ∧ i = .int .i64 k ∧ BRow 5 wr w2.heap.size (grownCap w2 a0.size 0 5) (goneB a0 l1 k) ∧ RowKit.Hid (Below w.heap.size w wr)) (fun i _ => l1.length - (intOf i).toNat)
      case atStart => exact ⟨0, Nat.zero_le _, rfl, by rw [goneB_zero]; exact made w2 _ a0 (grownCap_ge w2 a0.size 0 _), Lib.hid (below_step HB2.out (below_bytes w2 _ a0))⟩
      case round =>
        obtain ⟨k, hk, rfl, hB, HB⟩ := hrel
        by_cases hlt : k < l1.length
        · have hlt2 : (k : Int) < (l1.length : Int) := by omega
          obtain ⟨ad, rfl, hx⟩ := Kd.at_int (Kd.C_below HR.out HB.out) k (by omega) (by omega)
          simp only [Int.toNat_natCast] at hx
          have Y := Lib.hid (rd_get l1 k hlt)
          have hq : inB a0 (rd l1 k) = true := by rw [Y.out]; exact List.all_eq_true.1 HA.out _ (List.getElem_mem hlt)
          obtain ⟨q0, q1⟩ := inB_iff.1 hq
          clear hq
          obtain ⟨m, hm2⟩ : ∃ m : Nat, rd l1 k = m := ⟨(rd l1 k).toNat, by omega⟩
          rw [hm2] at hx q0 q1
          have M := Lib.hid hm2
          clear hm2 q0
          have hz := hB.frozen m (by rw [goneB_len]; omega)
          have hy := hB.cell m (by rw [goneB_len]; omega)
          go_wp2
          go_roundw
          case measure => simp only [intOf]; omega
          case rel => exact ⟨k + 1, by omega, by go_num, by rw [goneB_step a0 l1 k hlt, ← Y.out, M.out, Int.toNat_natCast]; exact hB.set m (by rw [goneB_len]; omega) 46, Lib.hid (HB.out.setCell HB2.out.size _)⟩
        · have hlt2 : ¬ (k : Int) < (l1.length : Int) := by omega
          have E : k = l1.length := by omega
          rw [E] at hB
          clear E
          have hstr := hB.string (P := Tryd.prog) (src := 62) Tryd.underlying62 Tryd.underlying5 Tryd.underlying9 (grownCap w2 a0.size 0 5) a0.size (goneB_len _ _ _)
          go_wp2
          go_ret2
          exact ⟨rfl, HB.out⟩
end Go.Proofs.YteahgkijaehobaaDoor.Q
