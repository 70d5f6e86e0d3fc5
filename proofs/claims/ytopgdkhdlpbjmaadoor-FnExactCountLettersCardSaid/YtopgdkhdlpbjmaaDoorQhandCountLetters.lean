/- impl.CountLetters is walked. -/
import Derived.Test.YtopgdkhdlpbjmaaDoorQpureStrip
import Derived.Test.YtopgdkhdlpbjmaaDoorBytes
import Derived.Outline
import Derived.Lib.Hide
namespace Go.Proofs.YtopgdkhdlpbjmaaDoor.Q
open Go.RowKit Go.Proofs.YtopgdkhdlpbjmaaDoorW.PrintWords Go.Proofs.YtopgdkhdlpbjmaaDoorW.PrintLast Go.Proofs.YtopgdkhdlpbjmaaDoorW.PrintMore
open Go.Proofs.YtopgdkhdlpbjmaaDoor.Pure Go.Proofs.YtopgdkhdlpbjmaaDoor.Bytes
set_option linter.unusedVariables false

def addL (c : List Int) (b : Int) : List Int := c.set (b - 65).toNat (wrap64 (rd c (b - 65) + 1))
/-- The counts after the first k bytes. -/
def cntL (xs : List Int) (k : Nat) : List Int := (xs.take k).foldl addL (List.replicate 26 0)
theorem addL_len (c : List Int) (b : Int) : (addL c b).length = c.length := by simp [addL]
theorem foldl_addL_len : ∀ (xs c : List Int), (xs.foldl addL c).length = c.length := by
  intro xs
  induction xs with
  | nil => intro c; rfl
  | cons x xs ih => intro c; rw [List.foldl_cons, ih, addL_len]
theorem cntL_len (xs : List Int) (k : Nat) : (cntL xs k).length = 26 := by
  unfold cntL
  rw [foldl_addL_len, List.length_replicate]
theorem cntL_step (xs : List Int) (k : Nat) (h : k < xs.length) : cntL xs (k + 1) = addL (cntL xs k) xs[k] := by
  unfold cntL
  rw [List.take_succ_eq_append_getElem h, List.foldl_append]
  rfl
def countM (a : ByteArray) : List Int × Int := if textB a = true then (cntL (bytesOf (strip a)) (strip a).size, 0) else ([], 1)
def impl_CountLetters.f (a : ByteArray) : Option (List Int × Int) := some (countM a)

set_option maxHeartbeats 2000000 in
theorem impl_CountLetters.calls (a0 : ByteArray) (r1 : List Int) (r2 : Int) (w : World) (hG_ : Glob w) (h : impl_CountLetters.f a0 = some (r1, r2)) :
    Calls Tryd.prog 21 #[.string a0] w fun e w' => ∃ v0_ : Value, e = .returned (.tuple #[v0_, .int .i64 r2]) ∧ Kd.R (Kd.int .i64) 2 w' w.heap.size (fun _ => True) v0_ r1 ∧ Below w.heap.size w w' := by
  replace h := Option.some.inj h
  unfold countM at h
  have HG := Lib.hid hG_
  clear hG_
  have htext := Lib.hid (impl_ValidText.calls 61 a0 (textB a0) w HG.out (by
    by_cases h : a0.size ≤ 60
    · exact at_rounds (impl_ValidText.mono a0) (by omega) (impl_ValidText.val a0 (by omega))
    · unfold impl_ValidText.f textB
      rw [if_neg (by omega)]
      simp [show ¬ ((a0.size : Int) ≤ 60) by omega]))
  cases ht : textB a0 with
  | false =>
    rw [ht] at htext h
    simp only [Bool.false_eq_true, if_false, Prod.mk.injEq] at h
    obtain ⟨rfl, rfl⟩ := h
    go_enter Tryd.func21, Tryd.ntmps21
    go_wp2_with (refine htext.out.mono ?_; rintro e w' ⟨rfl, hb⟩)
    go_ret2
    exact ⟨_, rfl, Kd.R_nil _ _ _ _ _, hb⟩
  | true =>
    have hsm := text_small ht
    have hst := strip_size a0
    rw [ht] at htext h
    simp only [if_true, Prod.mk.injEq] at h
    obtain ⟨rfl, rfl⟩ := h
    have hlet := fun (W : World) (hW : Below w.heap.size w W) => impl_lettersOf.calls a0 (strip a0) W (HG.out.step hW) (impl_lettersOf.val a0 (by omega))
    have HL := Lib.hid hlet
    have HS := Lib.hid (fun k hk => strip_letter ht k hk)
    clear hlet ht
    generalize strip a0 = s at *
    have hcv := fun W => Lib.run_convert_string_bytes (P := Tryd.prog) W 9 59 5 s (u := .string) Tryd.underlying9 Tryd.underlying59 Tryd.underlying5
    go_enter Tryd.func21, Tryd.ntmps21
    go_wp2_with (first | (refine htext.out.mono ?_; rintro e w1 ⟨rfl, hb1⟩; have HB1 := Lib.hid hb1; clear hb1) | ((with_reducible refine gate_dst (N := 10) rfl ?_); refine Kd.R_make (Kd.int .i64) _ 2 rfl (N := 10) rfl 32 _ _ rfl 26 rfl rfl Tryd.underlying32 (.int .i64 0) 8 info2 rfl (by decide) (by omega) 0 (ok := fun _ => True) (okp := fun _ => True) rfl (fun _ hk => hk) trivial (by omega) (by omega) (Below.refl _ _) (Nat.le_refl _) ?_; intro v w5 ho hb hg_ hnew_; clear hg_ hnew_; obtain ⟨g, cap, ev, gb, gl, _⟩ := Kd.R_form ho (by simp); rw [show (List.replicate (26 : Int).toNat (0 : Int)).length = 26 from by simp] at ev; subst ev; have HO := Lib.hid ho; have HB5 := Lib.hid (below_step HB1.out hb); have GL := Lib.hid gl; have GB := Lib.hid gb; clear ho hb gl gb) | (refine (HL.out _ HB5.out).mono ?_; rintro e w6 ⟨rfl, hb6⟩; have HO6 := Lib.hid (Kd.R_below HO.out hb6); have HB6 := Lib.hid (below_step HB5.out hb6); have GL6 := Lib.hid (Nat.lt_of_lt_of_le GL.out hb6.size); clear hb6))
    go_loopw [15] (fun i wr => ∃ k : Nat, k ≤ s.size ∧ i = .int .i64 k ∧ BRow 5 wr w6.heap.size (grownCap w6 s.size 0 5) (bytesOf s) ∧ RowKit.Hid (Kd.R (Kd.int .i64) 2 wr w1.heap.size (fun _ => True) (.slice (some ⟨g, 0, none⟩) 26 cap) (cntL (bytesOf s) k)) ∧ RowKit.Hid (Below w.heap.size w wr)) (fun i _ => s.size - (intOf i).toNat)
    case atStart => exact ⟨0, Nat.zero_le _, rfl, made w6 _ s (grownCap_ge w6 s.size 0 _), Lib.hid (Kd.R_below HO6.out (below_bytes w6 _ s)), Lib.hid (below_step HB6.out (below_bytes w6 _ s))⟩
    case round =>
      obtain ⟨k, hk, rfl, hB, HR, HW⟩ := hrel
      by_cases hlt : k < s.size
      · have hlt2 : (k : Int) < (s.size : Int) := by omega
        have hx := hB.cell k (by rw [bytesOf_length]; exact hlt)
        have hget : (bytesOf s).getD k 0 = bt s k := by rw [List.getD_eq_getElem?_getD, bytesOf_get s k hlt]; rfl
        rw [hget] at hx
        have hl := HS.out k hlt
        unfold isL at hl
        simp only [Bool.and_eq_true, decide_eq_true_iff] at hl
        obtain ⟨m, hm⟩ : ∃ m : Nat, bt s k = 65 + m := ⟨(bt s k - 65).toNat, by omega⟩
        have hm26 : m < 26 := by omega
        have M := Lib.hid hm
        rw [hm] at hx
        clear hm hl
        obtain ⟨hy, hz⟩ := Kd.R_celln 0 HR.out (m : Int) (by omega) (by omega)
        have hput := Kd.R_putg HR.out (m : Int) (wrap64 (rd (cntL (bytesOf s) k) (m : Int) + 1))
        have HP := Lib.hid hput
        clear hput
        simp only [Int.toNat_natCast] at hy hz
        go_wp2
        go_roundw
        case measure => simp only [intOf]; omega
        case rel =>
          refine ⟨k + 1, by omega, by go_num, hB.same ?_, Lib.hid ?_, Lib.hid (HW.out.setCell (Nat.le_trans HB1.out.size GB.out) _)⟩
          · have hne : g ≠ w6.heap.size := by have := GL6.out; omega
            simp [World.setCell, Array.getElem?_modify, hne]
          · have hst2 := cntL_step (bytesOf s) k (by rw [bytesOf_length]; exact hlt)
            rw [bytesOf_at s k hlt] at hst2
            unfold addL at hst2
            rw [M.out, show (65 : Int) + m - 65 = m by omega] at hst2
            rw [hst2]
            exact HP.out.1
      · have hlt2 : ¬ (k : Int) < (s.size : Int) := by omega
        have E : k = s.size := by omega
        have HR2 := Lib.hid (E ▸ HR.out)
        clear E
        go_wp2
        go_ret2
        exact ⟨_, rfl, Kd.R_lower HR2.out HB1.out.size, HW.out⟩
end Go.Proofs.YtopgdkhdlpbjmaaDoor.Q
