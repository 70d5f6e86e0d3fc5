/- spec.GreedyFor by hand. -/
import Derived.Test.YtnacfljfalkonaaQhandSpecOk
import Derived.Test.YtnacfljfalkonaaQhandPieces
import Derived.Test.YtnacfljfalkonaaQspecl03Number
import Derived.Outline
import Derived.Lib.Hide
namespace Go.Proofs.Ytnacfljfalkonaa.Q
open Go.RowKit Go.Proofs.YtnacfljfalkonaaW.PrintWords Go.Proofs.YtnacfljfalkonaaW.PrintLast Go.Proofs.YtnacfljfalkonaaW.PrintMore
open Go.Proofs.Ytnacfljfalkonaa.Pure
set_option linter.unusedVariables false

/-- The place of the greatest value that is not above n, among the first p. -/
def bestTo (L : List S46) (n : Int) : Nat → Int
  | 0 => -1
  | p + 1 => if (rd_T46 L (p : Int)).f1 ≤ n ∧ (bestTo L n p < 0 ∨ (rd_T46 L (p : Int)).f1 > (rd_T46 L (bestTo L n p)).f1) then (p : Int) else bestTo L n p
theorem bestTo_succ (L : List S46) (n : Int) (p : Nat) : bestTo L n (p + 1) = if (rd_T46 L (p : Int)).f1 ≤ n ∧ (bestTo L n p < 0 ∨ (rd_T46 L (p : Int)).f1 > (rd_T46 L (bestTo L n p)).f1) then (p : Int) else bestTo L n p := rfl
theorem bestTo_range (L : List S46) (n : Int) (p : Nat) : -1 ≤ bestTo L n p ∧ bestTo L n p < p := by
  induction p with
  | zero => simp [bestTo]
  | succ p ih =>
    simp only [bestTo]
    split <;> omega
def grS : Nat → List S46 → Int → ByteArray → Option (ByteArray × Int)
  | 0, _, _, _ => none
  | q + 1, L, n, o => if 0 < n then (if 0 ≤ bestTo L n L.length then (if o.size + (rd_T46 L (bestTo L n L.length)).f0.size ≤ 9223372036854775807 then (if 16 < (o ++ (rd_T46 L (bestTo L n L.length)).f0).size then some (⟨#[]⟩, 3) else grS q L (wrap64 (n - (rd_T46 L (bestTo L n L.length)).f1)) (o ++ (rd_T46 L (bestTo L n L.length)).f0)) else none) else none) else some (o, 0)
def spec_GreedyFor.f (l0_0 : List SG) (l0_1 : List MP) (a1 : Int) : Option (ByteArray × Int) := (spec_l03Ok.f l0_0 l0_1).bind fun ok => if ok = true then (spec_l03Number.f a1).bind fun nb => (if nb = true then (spec_l03Pieces.f l0_0 l0_1).bind fun L => grS 10002 L a1 ⟨#[]⟩ else some (⟨#[]⟩, 2)) else some (⟨#[]⟩, 1)
theorem pieces_len {s : List SG} {m : List MP} {L : List S46} (h : spec_l03Pieces.f s m = some L) : L.length ≤ 2097152 := by
  unfold spec_l03Pieces.f at h
  split at h
  · rename_i hb
    cases h
    unfold piecesQ
    rw [List.length_append, List.length_map, List.length_map]
    omega
  · cases h
theorem pc_cells {w W : World} {ad : Addr} {l : List S46} (h : Kd.C k46 W (some ad) l.length l) (k : Nat) (hk : k < l.length) : W.cell? (ad.add (k * 2)) = some (.string (rd_T46 l (k : Int)).f0) ∧ W.cell? ⟨(ad.add (k * 2)).block, (ad.add (k * 2)).off + 1, none⟩ = some (.int .i64 (rd_T46 l (k : Int)).f1) := by
  obtain ⟨ad2, ea, hx, hy⟩ := at_T46 h (k : Nat) (by omega) (by omega)
  cases ea
  simp only [Int.toNat_natCast] at hx hy
  exact ⟨hx, hy⟩

set_option maxRecDepth 20000 in
set_option maxHeartbeats 4000000 in
theorem spec_GreedyFor.calls (A0_0 : Option Addr) (c0_0 : Nat) (l0_0 : List SG) (A0_1 : Option Addr) (c0_1 : Nat) (l0_1 : List MP) (a1 : Int) (r1 : ByteArray) (r2 : Int) (w : World) (hr0_0 : Kd.C k77 w A0_0 l0_0.length l0_0) (hc0_0 : l0_0.length ≤ c0_0) (hr0_1 : Kd.C k79 w A0_1 l0_1.length l0_1) (hc0_1 : l0_1.length ≤ c0_1) (h : spec_GreedyFor.f l0_0 l0_1 a1 = some (r1, r2)) :
    Calls Try.prog 6 #[.agg #[.slice A0_0 l0_0.length c0_0, .slice A0_1 l0_1.length c0_1], .int .i64 a1] w fun e w' => e = .returned (.tuple #[.string r1, .int .i64 r2]) ∧ Below w.heap.size w w' := by
  unfold spec_GreedyFor.f at h
  obtain ⟨ok, hok, h⟩ := Option.bind_eq_some_iff.1 h
  have HC := Lib.hid (spec_l03Ok.calls w.heap.size l0_0 l0_1 ok w _ ⟨A0_0, c0_0, A0_1, c0_1, heap_alloc_new w (.cells #[.slice A0_0 l0_0.length c0_0, .slice A0_1 l0_1.length c0_1] 31), Nat.le_refl _, hr0_0, hr0_1⟩ (below_alloc (Below.refl _ _) _) hok)
  clear hr0_0 hr0_1 hok hc0_0 hc0_1
  cases ok
  · rw [if_neg (by simp)] at h
    simp only [Option.some.injEq, Prod.mk.injEq] at h
    obtain ⟨rfl, rfl⟩ := h
    go_enter Try.func6, Try.ntmps6
    go_wp2_with (first | (go_at_call 14; refine HC.out.mono ?_; rintro e w' ⟨rfl, hi, hb, hk⟩; have HB := Lib.hid hb; clear hi hb hk))
    go_ret2
    exact ⟨rfl, HB.out⟩
  rw [if_pos rfl] at h
  obtain ⟨nb, hnb, h⟩ := Option.bind_eq_some_iff.1 h
  have HN := Lib.hid hnb
  clear hnb
  cases nb
  · rw [if_neg (by simp)] at h
    simp only [Option.some.injEq, Prod.mk.injEq] at h
    obtain ⟨rfl, rfl⟩ := h
    go_enter Try.func6, Try.ntmps6
    go_wp2_with (first | (go_at_call 14; refine HC.out.mono ?_; rintro e w' ⟨rfl, hi, hb, hk⟩; have HB := Lib.hid hb; clear hi hb hk) | (go_at_call 15; refine (spec_l03Number.calls a1 _ _ HN.out).mono ?_; rintro e w' ⟨rfl, ⟨nd, rfl⟩⟩))
    go_ret2
    exact ⟨rfl, pw_below_drewN HB.out _⟩
  rw [if_pos rfl] at h
  obtain ⟨L, hL, h⟩ := Option.bind_eq_some_iff.1 h
  have HL := Lib.hid hL
  have HLL := Lib.hid (pieces_len hL)
  have HG := Lib.hid h
  clear hL h
  go_enter Try.func6, Try.ntmps6
  go_wp2_with (first | (go_at_call 14; refine HC.out.mono ?_; rintro e w' ⟨rfl, hi, hb, hk⟩; have HB := Lib.hid hb; have HI := Lib.hid hi; clear hi hb hk) | (go_at_call 15; refine (spec_l03Number.calls a1 _ _ HN.out).mono ?_; rintro e w' ⟨rfl, ⟨nd, rfl⟩⟩) | (go_at_call 16; refine (spec_l03Pieces.calls w.heap.size l0_0 l0_1 L w _ (HI.out.drewN _) (pw_below_drewN HB.out _) HL.out).mono ?_; rintro e w' ⟨v0, rfl, ho, hi, hb⟩; have HB2 := Lib.hid hb; have HR := Lib.hid ho; clear ho hi hb))
  obtain ⟨A, c, rfl⟩ := Kd.R_slice HR.out
  have HA := Lib.hid (Kd.R_reads' HR.out).2.2
  clear HR HB HI
  go_loopg [1, 7] 10002 (fun kq v1 v7 w' => ∃ (n : Int) (o : ByteArray), v1 = .int .i64 n ∧ v7 = .string o ∧ RowKit.Hid (grS kq L n o = some (r1, r2)) ∧ RowKit.Hid (Kd.C k46 w' A L.length L) ∧ RowKit.Hid (Below w.heap.size w w'))
  case atStart => exact ⟨a1, ⟨#[]⟩, rfl, rfl, HG, HA, HB2⟩
  case round =>
    clear HG HA HB2 HC HN HL
    obtain ⟨n, o, rfl, rfl, HG, HA, HB⟩ := hrel
    cases gk with
    | zero => exact absurd HG.out (by simp [grS])
    | succ k1 =>
      have h := HG.out
      clear HG
      simp only [grS] at h
      by_cases c1 : 0 < n
      · rw [if_pos c1] at h
        obtain ⟨b, hb⟩ : ∃ b, b = bestTo L n L.length := ⟨_, rfl⟩
        rw [← hb] at h
        by_cases c2 : 0 ≤ b
        rotate_left
        · rw [if_neg c2] at h
          cases h
        rw [if_pos c2] at h
        have HBT := Lib.hid hb
        have H := Lib.hid h
        have C2 := Lib.hid c2
        clear h hb c2
        go_wp2
        go_loopw [8, 9] (fun bv i w' => ∃ p : Nat, p ≤ L.length ∧ i = .int .i64 p ∧ bv = .int .i64 (bestTo L n p) ∧ RowKit.Hid (Kd.C k46 w' A L.length L) ∧ RowKit.Hid (Below w.heap.size w w')) (fun _ i _ => L.length - (intOf i).toNat)
        case atStart => exact ⟨0, Nat.zero_le _, rfl, rfl, HA, HB⟩
        case round =>
          clear HA HB
          obtain ⟨p, hp, rfl, rfl, HA, HB⟩ := hrel
          have hlL : L.length ≤ 2097152 := HLL.out
          by_cases hlt : p < L.length
          · have hlt2 : (p : Int) < (L.length : Int) := by omega
            obtain ⟨ad, ea, hx0, hx1⟩ := at_T46 HA.out (p : Nat) (by omega) (by omega)
            cases ea
            simp only [Int.toNat_natCast] at hx0 hx1
            obtain ⟨b0, hb0⟩ : ∃ b0, b0 = bestTo L n p := ⟨_, rfl⟩
            have hr := bestTo_range L n p
            rw [← hb0] at hr ⊢
            have HB0 := Lib.hid hb0
            clear hb0
            by_cases t1 : (rd_T46 L (p : Int)).f1 ≤ n
            · have T1 := decide_eq_true t1
              have X1 := Lib.hid t1
              clear t1
              by_cases t2 : b0 < 0
              · have T2 := decide_eq_true t2
                have X2 := Lib.hid t2
                clear t2 hr
                go_wp2
                go_quiet (fail)
                go_wp2
                go_roundw
                case measure => simp only [intOf]; omega
                case rel => exact ⟨p + 1, by omega, by go_num, by rw [bestTo_succ, ← HB0.out, if_pos ⟨X1.out, Or.inl X2.out⟩], Lib.hid (Kd.C_drewN HA.out _), Lib.hid (pw_below_drewN HB.out _)⟩
              · have T2 := decide_eq_false t2
                obtain ⟨q, rfl⟩ : ∃ q : Nat, b0 = (q : Int) := ⟨b0.toNat, by omega⟩
                have hq1 : q < L.length := by omega
                have hq2 : (q : Int) < (L.length : Int) := by omega
                obtain ⟨hy0, hy1⟩ := pc_cells (w := w) HA.out q hq1
                have X2 := Lib.hid t2
                clear t2 hr
                by_cases t3 : (rd_T46 L (p : Int)).f1 > (rd_T46 L (q : Int)).f1
                · have T3 := decide_eq_true t3
                  have X3 := Lib.hid t3
                  clear t3
                  go_wp2
                  go_quiet (fail)
                  go_wp2
                  go_roundw
                  case measure => simp only [intOf]; omega
                  case rel => exact ⟨p + 1, by omega, by go_num, by rw [bestTo_succ, ← HB0.out, if_pos ⟨X1.out, Or.inr X3.out⟩], Lib.hid (Kd.C_drewN HA.out _), Lib.hid (pw_below_drewN HB.out _)⟩
                · have T3 := decide_eq_false t3
                  have X3 := Lib.hid t3
                  clear t3
                  go_wp2
                  go_quiet (fail)
                  go_wp2
                  go_roundw
                  case measure => simp only [intOf]; omega
                  case rel => exact ⟨p + 1, by omega, by go_num, by rw [bestTo_succ, ← HB0.out, if_neg (by have e2 := X2.out; have e3 := X3.out; omega)], Lib.hid (Kd.C_drewN HA.out _), Lib.hid (pw_below_drewN HB.out _)⟩
            · have T1 := decide_eq_false t1
              have X1 := Lib.hid t1
              clear t1 hr
              go_wp2
              go_quiet (fail)
              go_wp2
              go_roundw
              case measure => simp only [intOf]; omega
              case rel => exact ⟨p + 1, by omega, by go_num, by rw [bestTo_succ, ← HB0.out, if_neg (by have e1 := X1.out; omega)], Lib.hid (Kd.C_drewN HA.out _), Lib.hid (pw_below_drewN HB.out _)⟩
          · obtain rfl : p = L.length := by omega
            have hr := bestTo_range L n L.length
            rw [← HBT.out] at hr ⊢
            have h2 := C2.out
            obtain ⟨q, rfl⟩ : ∃ q : Nat, b = (q : Int) := ⟨b.toNat, by omega⟩
            have hq1 : q < L.length := by omega
            have hq2 : (q : Int) < (L.length : Int) := by omega
            obtain ⟨ad, ea, hx0, hx1⟩ := at_T46 HA.out (q : Nat) (by omega) (by omega)
            cases ea
            simp only [Int.toNat_natCast] at hx0 hx1
            clear hr h2 hlt
            have h := H.out
            clear H
            by_cases c3 : o.size + (rd_T46 L (q : Int)).f0.size ≤ 9223372036854775807
            · rw [if_pos c3] at h
              have c3b := eq_true c3
              have c3c : (9223372036854775807 < o.size + (rd_T46 L (q : Int)).f0.size) = False := eq_false (Nat.not_lt.2 c3)
              by_cases c4 : 16 < (o ++ (rd_T46 L (q : Int)).f0).size
              · rw [if_pos c4] at h
                simp only [Option.some.injEq, Prod.mk.injEq] at h
                obtain ⟨rfl, rfl⟩ := h
                rw [ByteArray.size_append] at c4
                have c4b : decide (16 < ((o.size : Int) + ((rd_T46 L (q : Int)).f0.size : Int))) = true := decide_eq_true (by omega)
                have c4c : (16 < ((o.size : Int) + ((rd_T46 L (q : Int)).f0.size : Int))) = True := eq_true (by omega)
                clear c4 c3
                go_wp2
                go_ret2
                exact ⟨rfl, HB.out⟩
              · rw [if_neg c4] at h
                rw [ByteArray.size_append] at c4
                have c4b : decide (16 < ((o.size : Int) + ((rd_T46 L (q : Int)).f0.size : Int))) = false := decide_eq_false (by omega)
                have c4c : (16 < ((o.size : Int) + ((rd_T46 L (q : Int)).f0.size : Int))) = False := eq_false (by omega)
                have H2 := Lib.hid h
                clear c4 c3 h
                go_wp2
                go_roundg k1
                case measure => omega
                case rel => exact ⟨_, _, rfl, rfl, H2, HA, HB⟩
            · rw [if_neg c3] at h
              cases h
      · rw [if_neg c1] at h
        simp only [Option.some.injEq, Prod.mk.injEq] at h
        obtain ⟨rfl, rfl⟩ := h
        go_wp2
        go_ret2
        exact ⟨rfl, HB.out⟩
end Go.Proofs.Ytnacfljfalkonaa.Q
