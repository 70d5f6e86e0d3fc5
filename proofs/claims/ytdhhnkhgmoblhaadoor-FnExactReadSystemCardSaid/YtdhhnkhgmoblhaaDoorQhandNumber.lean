/- impl.number: a number, read by strconv.ParseInt at base ten and told again; by hand. -/
import Derived.Test.YtdhhnkhgmoblhaaDoorQpureRS
import Derived.Test.YtdhhnkhgmoblhaaDoorGlobFP
import Derived.Test.YtdhhnkhgmoblhaaDoorBase
import Derived.Test.YtdhhnkhgmoblhaaDoorQimpldecimal
import Derived.Test.YtdhhnkhgmoblhaaDoorQimplwithin
import Derived.Test.YtdhhnkhgmoblhaaDoorQlibDec
import Derived.Test.YtdhhnkhgmoblhaaDoorShelfP
import Derived.Lib.ParseIntBTie
import Derived.Lib.SmallJoins
import Derived.Lib.Hide
import Derived.Outline
namespace Go.Proofs.YtdhhnkhgmoblhaaDoor.Q
open Go.RowKit Go.Proofs.YtdhhnkhgmoblhaaDoorW.PrintWords Go.Proofs.YtdhhnkhgmoblhaaDoorW.PrintLast Go.Proofs.YtdhhnkhgmoblhaaDoorW.PrintMore
open Go.Proofs.YtdhhnkhgmoblhaaDoor.Pure
set_option linter.unusedVariables false

def numV (l : List UInt8) (most : Int) : Int × Bool := match Lib.parseIntB 64 l with
  | .ok n => if Lib.itoa n = l ∧ 0 ≤ n ∧ n ≤ most then (n, true) else (0, false)
  | _ => (0, false)
def impl_number.f (s : ByteArray) (most : Int) : Option (Int × Bool) := if s.size ≤ 4294967296 then some (numV s.data.toList most) else none

theorem dec_some (n : Int) (h0 : -9223372036854775808 ≤ n) (h1 : n ≤ 9223372036854775807) : impl_decimal.f n = some ⟨(Lib.itoa n).toArray⟩ := by
  unfold impl_decimal.f strconv_FormatInt_61.f
  rw [if_pos ⟨rfl, h0, h1⟩]
  rfl
set_option maxHeartbeats 2000000 in
set_option maxRecDepth 20000 in
theorem impl_number.calls (a0 : ByteArray) (a1 : Int) (r1 : Int) (r2 : Bool) (w : World) (hG_ : GlobFP w) (h : impl_number.f a0 a1 = some (r1, r2)) :
    Calls Tryd.prog 45 #[.string a0, .int .i64 a1] w fun e w' => e = .returned (.tuple #[.int .i64 r1, .bool r2]) ∧ Below w.heap.size w w' := by
  unfold impl_number.f at h
  split at h
  rotate_left
  · cases h
  rename_i hs
  replace h := Option.some.inj h
  unfold numV at h
  have HG := Lib.hid hG_
  cases hp : Lib.parseIntB 64 a0.data.toList with
  | ok n =>
    have HP := Lib.hid (show Calls Tryd.prog 81 #[.string a0, .int .i64 10, .int .i64 64] w fun e w' => e = .returned (.tuple #[.int .i64 n, .nilIface]) ∧ Below w.heap.size w w' from by
      refine (Tryd.strconv_ParseInt_10_at64_ok a0 (by omega) n hp w).mono ?_
      rintro e w' ⟨rfl, hw⟩
      refine ⟨rfl, ?_⟩
      rcases hw with rfl | ⟨t, rfl⟩
      · exact Below.refl _ _
      · exact Go.Joins.below_bytesWorld _ _ _ _ (Nat.le_refl _))
    have hbd := Lib.parseIntB_bounds hp
    have HD := Lib.hid (fun (W : World) (hW : Below w.heap.size w W) => impl_decimal.calls n ⟨(Lib.itoa n).toArray⟩ W (HG.out.toP.step hW) (dec_some n (by omega) (by omega)))
    rw [hp] at h
    dsimp only at h
    have HI := Lib.hid (fun (W : World) => impl_within.calls n 0 a1 (decide (0 ≤ n) && decide (n ≤ a1)) W (by
      unfold impl_within.f
      by_cases h0 : 0 ≤ n
      · rw [if_pos h0, decide_eq_true h0, Bool.true_and]
      · rw [if_neg h0, decide_eq_false h0, Bool.false_and]))
    obtain ⟨t, ht⟩ : ∃ t : ByteArray, t = ⟨(Lib.itoa n).toArray⟩ := ⟨_, rfl⟩
    rw [← ht] at HD
    have e0 : (Lib.itoa n = a0.data.toList) ↔ t = a0 := by
      rw [ht]
      constructor
      · intro e; rw [e]
      · intro e; rw [← e]
    have hbw : (decide (0 ≤ n) && decide (n ≤ a1)) = decide (0 ≤ n ∧ n ≤ a1) := by rw [Bool.decide_and]
    obtain ⟨bw, hw⟩ : ∃ bw, bw = (decide (0 ≤ n) && decide (n ≤ a1)) := ⟨_, rfl⟩
    rw [← hw] at HI
    rw [hbw] at hw
    clear hp hG_ hs hbd ht hbw
    by_cases e1 : t = a0
    · by_cases e2 : 0 ≤ n ∧ n ≤ a1
      · rw [if_pos ⟨e0.2 e1, e2⟩] at h
        rw [decide_eq_true e2] at hw
        cases h
        subst hw
        subst e1
        clear e0 e2
        go_enter Tryd.func45, Tryd.ntmps45
        go_wp2_with (first | (go_at_call 81; (with_reducible refine HP.out.mono ?_); rintro e w1 ⟨rfl, hb⟩; have HB1 := Lib.hid hb; clear hb) | (go_at_call 30; (with_reducible refine (HD.out _ HB1.out).mono ?_); rintro e w2 ⟨rfl, hb⟩; have HB2 := Lib.hid (below_step HB1.out hb); clear hb) | (go_at_call 54; (with_reducible refine (HI.out _).mono ?_); rintro e w3 ⟨rfl, nd, rfl⟩))
        go_ret2
        exact ⟨rfl, pw_below_drewN HB2.out _⟩
      · rw [if_neg (fun hh => e2 hh.2)] at h
        rw [decide_eq_false e2] at hw
        cases h
        subst hw
        subst e1
        clear e0 e2
        go_enter Tryd.func45, Tryd.ntmps45
        go_wp2_with (first | (go_at_call 81; (with_reducible refine HP.out.mono ?_); rintro e w1 ⟨rfl, hb⟩; have HB1 := Lib.hid hb; clear hb) | (go_at_call 30; (with_reducible refine (HD.out _ HB1.out).mono ?_); rintro e w2 ⟨rfl, hb⟩; have HB2 := Lib.hid (below_step HB1.out hb); clear hb) | (go_at_call 54; (with_reducible refine (HI.out _).mono ?_); rintro e w3 ⟨rfl, nd, rfl⟩))
        go_ret2
        exact ⟨rfl, pw_below_drewN HB2.out _⟩
    · rw [if_neg (fun hh => e1 (e0.1 hh.1))] at h
      cases h
      have n1 : ¬ t.toList = a0.toList := fun e => e1 (bytes_eq.1 e)
      have n2 : (t.toList == a0.toList) = false := beq_eq_false_iff_ne.2 n1
      have n3 : (t.toList != a0.toList) = true := bne_iff_ne.2 n1
      clear e0 hw e1
      go_enter Tryd.func45, Tryd.ntmps45
      go_wp2_with (first | (go_at_call 81; (with_reducible refine HP.out.mono ?_); rintro e w1 ⟨rfl, hb⟩; have HB1 := Lib.hid hb; clear hb) | (go_at_call 30; (with_reducible refine (HD.out _ HB1.out).mono ?_); rintro e w2 ⟨rfl, hb⟩; have HB2 := Lib.hid (below_step HB1.out hb); clear hb))
      go_ret2
      exact ⟨rfl, HB2.out⟩
  | range =>
    obtain ⟨tp, p, hv⟩ := hG_.toF.erng
    have HP := Lib.hid (show Calls Tryd.prog 81 #[.string a0, .int .i64 10, .int .i64 64] w fun e w' => (∃ v t p, e = .returned (.tuple #[.int .i64 v, .iface t p])) ∧ Below w.heap.size w w' from by
      refine (Tryd.strconv_ParseInt_10_at64_range_var a0 (by omega) hp tp p w hv).mono ?_
      rintro e w' ⟨M, rfl, _, _, hb⟩
      exact ⟨⟨_, _, _, rfl⟩, hb⟩)
    rw [hp] at h
    dsimp only at h
    cases h
    clear hp hG_ hs hv
    go_enter Tryd.func45, Tryd.ntmps45
    go_wp2_with (first | (go_at_call 81; (with_reducible refine HP.out.mono ?_); rintro e w1 ⟨⟨v, t, p, rfl⟩, hb⟩; have HB1 := Lib.hid hb; clear hb))
    go_ret2
    exact ⟨rfl, HB1.out⟩
  | _ =>
    obtain ⟨tp, p, hv⟩ := hG_.toF.esyn
    have HP := Lib.hid (show Calls Tryd.prog 81 #[.string a0, .int .i64 10, .int .i64 64] w fun e w' => (∃ v t p, e = .returned (.tuple #[.int .i64 v, .iface t p])) ∧ Below w.heap.size w w' from by
      refine (Tryd.strconv_ParseInt_10_at64_syntax_var a0 (by omega) hp tp p w hv).mono ?_
      rintro e w' ⟨M, rfl, _, _, hb⟩
      exact ⟨⟨_, _, _, rfl⟩, hb⟩)
    rw [hp] at h
    dsimp only at h
    cases h
    clear hp hG_ hs hv
    go_enter Tryd.func45, Tryd.ntmps45
    go_wp2_with (first | (go_at_call 81; (with_reducible refine HP.out.mono ?_); rintro e w1 ⟨⟨v, t, p, rfl⟩, hb⟩; have HB1 := Lib.hid hb; clear hb))
    go_ret2
    exact ⟨rfl, HB1.out⟩
end Go.Proofs.YtdhhnkhgmoblhaaDoor.Q
