/- impl.TurnedWords is walked. -/
import Derived.Test.YteahgkijaehobaaDoorQhandPairs
import Derived.Test.YteahgkijaehobaaDoorQhandValidList
import Derived.Test.YteahgkijaehobaaDoorQhandTurned
namespace Go.Proofs.YteahgkijaehobaaDoor.Q
open Go.RowKit Go.Proofs.YteahgkijaehobaaDoorW.PrintWords Go.Proofs.YteahgkijaehobaaDoorW.PrintLast Go.Proofs.YteahgkijaehobaaDoorW.PrintMore
set_option linter.unusedVariables false

/-- Word k is word i turned. -/
def pairB (l : List ByteArray) (i k : Nat) : Bool := decide (i ≤ k) && (turnedV (rdOf ByteArray.empty l (i : Nat))).2 && decide ((turnedV (rdOf ByteArray.empty l (i : Nat))).1 = rdOf ByteArray.empty l (k : Nat))
def turnedM (l : List ByteArray) : List PR × Int := if listB l = true then (pairsP (pairB l) l.length l.length, 0) else ([], 1)
def impl_TurnedWords.f (l : List ByteArray) : Option (List PR × Int) := some (turnedM l)

theorem listB_small {l : List ByteArray} (h : listB l = true) : l.length ≤ 12 ∧ ∀ i : Nat, i < l.length → (rdOf ByteArray.empty l (i : Nat)).size ≤ 20 := by
  unfold listB at h
  simp only [Bool.and_eq_true, decide_eq_true_iff, List.all_eq_true] at h
  refine ⟨by omega, fun i hi => ?_⟩
  have h2 := h.1 l[i] (List.getElem_mem hi)
  rw [Pure.rdOf_get _ _ _ hi]
  unfold shortB at h2
  simp only [Bool.and_eq_true, decide_eq_true_iff] at h2
  omega

set_option maxHeartbeats 2000000 in
theorem impl_TurnedWords_1.calls (l : List ByteArray) (A : Option Addr) (c : Nat) (i k g : Nat) (hi : i < l.length) (hk : k < l.length) (w : World) (hx : w.cell? ⟨g, 0, none⟩ = some (.slice A l.length c)) (hg : g < w.heap.size) (hr : Kd.C Kd.string w A l.length l)
    (hs : (rdOf ByteArray.empty l (i : Nat)).size ≤ 20) :
    Calls Tryd.prog 88 #[.int .i64 i, .int .i64 k, .pointer (some ⟨g, 0, none⟩)] w fun e w' => e = .returned (.bool (pairB l i k)) ∧ Below w.heap.size w w' := by
  obtain ⟨ad, rfl, hz⟩ := Kd.at_string hr i (by omega) (by omega)
  simp only [Int.toNat_natCast] at hz
  have hm := Kd.C_max hr
  have HR := Lib.hid hr
  clear hr
  have HT := Lib.hid (impl_turned.calls (rdOf ByteArray.empty l (i : Nat)) (turnedV (rdOf ByteArray.empty l (i : Nat))).1 (turnedV (rdOf ByteArray.empty l (i : Nat))).2 w (by unfold impl_turned.f; rw [if_pos (by omega)]))
  unfold pairB
  generalize turnedV (rdOf ByteArray.empty l (i : Nat)) = q at HT ⊢
  obtain ⟨q1, q2⟩ := q
  have hi2 : (i : Int) < (l.length : Int) := by omega
  have hk2 : (k : Int) < (l.length : Int) := by omega
  have HG := Lib.hid hg
  have HX := Lib.hid hx
  clear hg
  have fact := fun (w1 : World) (hb : Below w.heap.size w w1) => (Kd.at_string (Kd.C_below HR.out hb) k (by omega) (by omega))
  have HF := Lib.hid fact
  clear fact
  by_cases c1 : i ≤ k
  · have c1d : decide ((i : Int) ≤ (k : Int)) = true := decide_eq_true (by omega)
    rw [decide_eq_true c1, Bool.true_and]
    cases q2 with
    | true =>
      simp only [Bool.true_and]
      by_cases c2 : q1 = rdOf ByteArray.empty l (k : Nat)
      · rw [decide_eq_true c2]
        have c2d : (q1.toList == (rdOf ByteArray.empty l (k : Nat)).toList) = true := by rw [c2]; simp
        go_enter Tryd.func88, Tryd.ntmps88
        go_wp2_with (refine HT.out.mono ?_; rintro e w1 ⟨rfl, hb⟩; obtain ⟨ad2, e2, hy⟩ := HF.out w1 hb; cases e2; simp only [Int.toNat_natCast] at hy; have hx1 := (hb.cell (p := ⟨g, 0, none⟩) HG.out).trans HX.out; have HB := Lib.hid hb; clear hb)
        go_ret
        exact ⟨rfl, HB.out⟩
      · rw [decide_eq_false c2]
        have c2d : (q1.toList == (rdOf ByteArray.empty l (k : Nat)).toList) = false := by
          rw [beq_eq_false_iff_ne]
          exact fun e => c2 (Pure.bytes_eq.1 e)
        have C2 := Lib.hid c2
        clear c2
        go_enter Tryd.func88, Tryd.ntmps88
        go_wp2_with (refine HT.out.mono ?_; rintro e w1 ⟨rfl, hb⟩; obtain ⟨ad2, e2, hy⟩ := HF.out w1 hb; cases e2; simp only [Int.toNat_natCast] at hy; have hx1 := (hb.cell (p := ⟨g, 0, none⟩) HG.out).trans HX.out; have HB := Lib.hid hb; clear hb)
        go_ret
        exact ⟨rfl, HB.out⟩
    | false =>
      rw [Bool.false_and]
      go_enter Tryd.func88, Tryd.ntmps88
      go_wp2_with (refine HT.out.mono ?_; rintro e w1 ⟨rfl, hb⟩; obtain ⟨ad2, e2, hy⟩ := HF.out w1 hb; cases e2; simp only [Int.toNat_natCast] at hy; have hx1 := (hb.cell (p := ⟨g, 0, none⟩) HG.out).trans HX.out; have HB := Lib.hid hb; clear hb)
      go_ret
      exact ⟨rfl, HB.out⟩
  · have c1d : decide ((i : Int) ≤ (k : Int)) = false := decide_eq_false (by omega)
    rw [decide_eq_false c1, Bool.false_and, Bool.false_and]
    go_enter Tryd.func88, Tryd.ntmps88
    go_wp2_with (refine HT.out.mono ?_; rintro e w1 ⟨rfl, hb⟩; obtain ⟨ad2, e2, hy⟩ := HF.out w1 hb; cases e2; simp only [Int.toNat_natCast] at hy; have hx1 := (hb.cell (p := ⟨g, 0, none⟩) HG.out).trans HX.out; have HB := Lib.hid hb; clear hb)
    go_ret
    exact ⟨rfl, HB.out⟩

theorem one_boxT {w w1 : World} {x : Value} {t : Nat} (hb : Below (w.alloc (.cells #[x] t)).heap.size (w.alloc (.cells #[x] t)) w1) :
    w1.cell? ⟨w.heap.size, 0, none⟩ = some x ∧ w.heap.size < w1.heap.size := by
  have h1 := hb.size
  have e : (w.alloc (.cells #[x] t)).heap.size = w.heap.size + 1 := by simp
  refine ⟨?_, by omega⟩
  rw [hb.cell (by show w.heap.size < _; omega)]
  exact World.cell?_alloc_mark w #[x] t (0, 0) 0

set_option maxHeartbeats 2000000 in
theorem impl_TurnedWords.calls (A0 : Option Addr) (c0 : Nat) (l0 : List ByteArray) (r1 : List PR) (r2 : Int) (w : World) (hG_ : Glob w) (hr0 : Kd.C Kd.string w A0 l0.length l0) (hc0 : l0.length ≤ c0) (h : impl_TurnedWords.f l0 = some (r1, r2)) :
    Calls Tryd.prog 48 #[.slice A0 l0.length c0] w fun e w' => ∃ v0_ : Value, e = .returned (.tuple #[v0_, .int .i64 r2]) ∧ Kd.R k83 83 w' w.heap.size (fun _ => True) v0_ r1 ∧ Below w.heap.size w w' := by
  replace h := Option.some.inj h
  unfold turnedM at h
  have hm := Kd.C_max hr0
  have HR := Lib.hid hr0
  have HG := Lib.hid hG_
  clear hr0 hG_
  have HB0 := Lib.hid (fun cs => below_alloc (Below.refl _ w) (.cells cs 23))
  have HL := Lib.hid (fun cs => impl_ValidList.calls A0 c0 l0 (listB l0) (w.alloc (.cells cs 23)) (HG.out.step (HB0.out cs)) (Kd.C_below HR.out (HB0.out cs)) hc0 rfl)
  cases hs : listB l0 with
  | false =>
    rw [hs] at HL h
    simp only [Bool.false_eq_true, if_false, Prod.mk.injEq] at h
    obtain ⟨rfl, rfl⟩ := h
    clear hs
    go_enter Tryd.func48, Tryd.ntmps48
    go_wp2_with (refine (HL.out _).mono ?_; rintro e w' ⟨rfl, hb⟩)
    go_ret2
    exact ⟨_, rfl, Kd.R_nil _ _ _ _ _, below_step (HB0.out _) hb⟩
  | true =>
    rw [hs] at HL h
    simp only [if_true, Prod.mk.injEq] at h
    obtain ⟨rfl, rfl⟩ := h
    obtain ⟨h12, h20⟩ := listB_small hs
    clear hs
    have HI := Lib.hid (fun (W : World) (hW : Below w.heap.size w W) (h3 : w.heap.size < W.heap.size) (h1 : W.cell? ⟨w.heap.size, 0, none⟩ = some (.slice A0 l0.length c0)) =>
      impl_pairsOf.calls 88 #[.pointer (some ⟨w.heap.size, 0, none⟩)] (pairB l0) l0.length W (enters_of Tryd.func88 (by kernel_rfl) rfl) (by omega)
        (fun i hi k hk V hV => impl_TurnedWords_1.calls l0 A0 c0 i k w.heap.size hi hk V (by rw [hV.cell (by show w.heap.size < _; omega)]; exact h1) (Nat.lt_of_lt_of_le h3 hV.size) (Kd.C_below HR.out (below_step hW hV)) (h20 i hi)))
    go_enter Tryd.func48, Tryd.ntmps48
    go_wp2_with (first | (refine (HL.out _).mono ?_; rintro e w1 ⟨rfl, hb⟩; obtain ⟨hx1, hx3⟩ := one_boxT hb; have HBW := Lib.hid (below_step (HB0.out _) hb); have HX3 := Lib.hid hx3; have HX1 := Lib.hid hx1; clear hb hx3) | (refine (HI.out _ HBW.out HX3.out HX1.out).mono ?_; rintro e w3 ⟨v, rfl, ho, hb⟩; have HO := Lib.hid ho; have HB3 := Lib.hid hb; clear ho hb))
    go_ret2
    exact ⟨_, rfl, Kd.R_lower HO.out HBW.out.size, below_step HBW.out HB3.out⟩
end Go.Proofs.YteahgkijaehobaaDoor.Q
