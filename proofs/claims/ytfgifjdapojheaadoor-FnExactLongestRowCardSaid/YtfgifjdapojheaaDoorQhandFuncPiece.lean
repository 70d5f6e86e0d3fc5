/- slices.ContainsFunc over a list of pieces, whatever function is handed on that answers a bool and leaves old memory as it was. -/
import Derived.Test.YtfgifjdapojheaaDoorQhandFunc
namespace Go.Proofs.YtfgifjdapojheaaDoor.Q
open Go.RowKit Go.Proofs.YtfgifjdapojheaaDoorW.PrintWords Go.Proofs.YtfgifjdapojheaaDoorW.PrintLast Go.Proofs.YtfgifjdapojheaaDoorW.PrintMore
set_option linter.unusedVariables false

theorem rdT_get (xs : List S44) (k : Nat) (h : k < xs.length) : rd_T44 xs (k : Int) = xs[k] := by
  unfold rd_T44
  simp [List.getD_eq_getElem?_getD, h]

set_option maxHeartbeats 1000000 in
theorem index_func_piece (g : Nat) (lb : Array Value) (p : S44 → Bool) (xs : List S44) (A0 : Option Addr) (c0 : Nat) (w : World) (eg : ∀ args w, (callFunc g args).run Tryd.prog w = .ok (.enter g args) w) (hr : Kd.C k44 w A0 xs.length xs)
    (hc : ∀ x ∈ xs, ∀ W, Below w.heap.size w W → Calls Tryd.prog g (#[.agg #[.string x.f0, .int .u8 x.f1, .int .u8 x.f2]] ++ lb) W fun e w' => e = .returned (.bool (p x)) ∧ Below w.heap.size w w') :
    Calls Tryd.prog 33 #[.slice A0 xs.length c0, .func (.func g) #[] lb] w fun e w' => e = .returned (.int .i64 (firstAt p xs 0)) ∧ Below w.heap.size w w' := by
  have hm := Kd.C_max hr
  have HR := Lib.hid hr
  have HC := Lib.hid hc
  clear hr hc
  go_enter Tryd.func33, Tryd.ntmps33
  go_wp2
  go_loopw [8] (fun i wr => ∃ k : Nat, k ≤ xs.length ∧ i = .int .i64 k ∧ RowKit.Hid ((xs.take k).any p = false) ∧ RowKit.Hid (Below w.heap.size w wr)) (fun i _ => xs.length - (intOf i).toNat)
  case atStart => exact ⟨0, Nat.zero_le _, rfl, Lib.hid (by simp), Lib.hid (Below.refl _ _)⟩
  case round =>
    obtain ⟨k, hk, rfl, HN, HB⟩ := hrel
    by_cases hlt : k < xs.length
    · have hlt2 : (k : Int) < (xs.length : Int) := by omega
      obtain ⟨ad, rfl, hx, hx1, hx2⟩ := at_T44 (Kd.C_below HR.out ⟨HB.out.os, HB.out.tape, HB.out.output, HB.out.size, HB.out.block⟩) k (by omega) (by omega)
      simp only [Int.toNat_natCast] at hx hx1 hx2
      have hcall := HC.out xs[k] (List.getElem_mem hlt) wr HB.out
      have Y := Lib.hid (rdT_get xs k hlt)
      rw [← Y.out] at hcall
      cases hq : p (rd_T44 xs k) with
      | true =>
        rw [hq] at hcall
        go_wp2_with (go_at_fn g; refine hcall.mono ?_; rintro e w' ⟨rfl, hb'⟩)
        go_ret
        refine ⟨?_, hb'⟩
        rw [firstAt_hit p xs k hlt HN.out (by rw [← Y.out]; exact hq)]
        rfl
      | false =>
        rw [hq] at hcall
        go_wp2_with (go_at_fn g; refine hcall.mono ?_; rintro e w' ⟨rfl, hb'⟩)
        go_roundw
        case measure => simp only [intOf]; omega
        case rel => exact ⟨k + 1, by omega, by go_num, Lib.hid (take_any_step p xs k hlt HN.out (by rw [← Y.out]; exact hq)), Lib.hid hb'⟩
    · have hlt2 : ¬ (k : Int) < (xs.length : Int) := by omega
      go_wp2
      go_ret
      refine ⟨?_, HB.out⟩
      have e : xs.take k = xs := List.take_of_length_le (by omega)
      have hn := HN.out
      rw [e] at hn
      rw [firstAt_miss p xs 0 hn]
      rfl

set_option maxHeartbeats 1000000 in
theorem contains_func_piece (g : Nat) (lb : Array Value) (p : S44 → Bool) (xs : List S44) (A0 : Option Addr) (c0 : Nat) (w : World) (eg : ∀ args w, (callFunc g args).run Tryd.prog w = .ok (.enter g args) w) (hr : Kd.C k44 w A0 xs.length xs)
    (hc : ∀ x ∈ xs, ∀ W, Below w.heap.size w W → Calls Tryd.prog g (#[.agg #[.string x.f0, .int .u8 x.f1, .int .u8 x.f2]] ++ lb) W fun e w' => e = .returned (.bool (p x)) ∧ Below w.heap.size w w') :
    Calls Tryd.prog 25 #[.slice A0 xs.length c0, .func (.func g) #[] lb] w fun e w' => e = .returned (.bool (xs.any p)) ∧ Below w.heap.size w w' := by
  have HR := Lib.hid hr
  have HC := Lib.hid hc
  clear hr hc
  rw [show xs.any p = decide (0 ≤ firstAt p xs 0) from by rw [Bool.eq_iff_iff, decide_eq_true_iff, firstAt_any]]
  go_enter Tryd.func25, Tryd.ntmps25
  go_wp2_with (refine (index_func_piece g lb p xs A0 c0 _ eg HR.out HC.out).mono ?_; rintro e w' ⟨rfl, hb'⟩)
  go_ret
  exact ⟨rfl, hb'⟩

end Go.Proofs.YtfgifjdapojheaaDoor.Q
