/- impl.pairsOf: the pairs of numbers below n that a function value accepts. -/
import Derived.Test.YteahgkijaehobaaDoorQhandFunc
namespace Go.Proofs.YteahgkijaehobaaDoor.Q
open Go.RowKit Go.Proofs.YteahgkijaehobaaDoorW.PrintWords Go.Proofs.YteahgkijaehobaaDoorW.PrintLast Go.Proofs.YteahgkijaehobaaDoorW.PrintMore
set_option linter.unusedVariables false

abbrev PR := S83
def rowP (p : Nat → Nat → Bool) (i k : Nat) : List PR := ((List.range k).filter (p i)).map fun (j : Nat) => (⟨(i : Int), (j : Int)⟩ : PR)
def pairsP (p : Nat → Nat → Bool) (n i : Nat) : List PR := (List.range i).flatMap fun i => rowP p i n
theorem rowP_hit (p : Nat → Nat → Bool) (i k : Nat) (h : p i k = true) : rowP p i (k + 1) = rowP p i k ++ [(⟨(i : Int), (k : Int)⟩ : PR)] := by
  simp [rowP, List.range_succ, List.filter_append, h]
theorem rowP_miss (p : Nat → Nat → Bool) (i k : Nat) (h : p i k = false) : rowP p i (k + 1) = rowP p i k := by
  simp [rowP, List.range_succ, List.filter_append, h]
theorem rowP_zero (p : Nat → Nat → Bool) (i : Nat) : rowP p i 0 = [] := rfl
theorem pairsP_step (p : Nat → Nat → Bool) (n i : Nat) : pairsP p n (i + 1) = pairsP p n i ++ rowP p i n := by
  simp [pairsP, List.range_succ]
theorem rowP_len (p : Nat → Nat → Bool) (i k : Nat) : (rowP p i k).length ≤ k := by
  unfold rowP
  rw [List.length_map]
  have := List.length_filter_le (p i) (List.range k)
  simpa using this
theorem pairsP_len (p : Nat → Nat → Bool) (n i : Nat) : (pairsP p n i).length ≤ i * n := by
  induction i with
  | zero => simp [pairsP]
  | succ i ih =>
    rw [pairsP_step, List.length_append]
    have := rowP_len p i n
    rw [Nat.add_mul]
    omega

set_option maxHeartbeats 4000000 in
theorem impl_pairsOf.calls (g : Nat) (lb : Array Value) (p : Nat → Nat → Bool) (n : Nat) (w : World) (eg : ∀ args w, (callFunc g args).run Tryd.prog w = .ok (.enter g args) w) (hn : n ≤ 1000)
    (hc : ∀ i < n, ∀ k < n, ∀ W, Below w.heap.size w W → Calls Tryd.prog g (#[.int .i64 i, .int .i64 k] ++ lb) W fun e w' => e = .returned (.bool (p i k)) ∧ Below W.heap.size W w') :
    Calls Tryd.prog 84 #[.int .i64 n, .func (.func g) #[] lb] w fun e w' => ∃ v, e = .returned v ∧ Kd.R k83 83 w' w.heap.size (fun _ => True) v (pairsP p n n) ∧ Below w.heap.size w w' := by
  have HC := Lib.hid hc
  clear hc
  go_enter Tryd.func84, Tryd.ntmps84
  go_wp2_with (first | ((with_reducible refine gate_dst (N := 8) rfl ?_); refine Kd.R_lit k83 _ 83 ?hg (N := 8) ?hd (xs := ([] : List PR)) (inner := []) (ok := fun _ => True) (okp := fun _ => True) ?hr ?hp (fun _ hk => hk) trivial (Below.refl _ _) (Nat.le_refl _) (by simp) ?_; (case hd => rfl); (case hg => rfl); (case hr => first | (go_simp; done) | (go_simp; rfl)); (case hp => exact (Reps.none _ _)); intro v0 w7 ho8 hb hg_ hnew_; clear hg_ hnew_; have HO := Lib.hid ho8; have HB := Lib.hid hb; clear ho8 hb))
  go_loopw [5, 10] (fun v i wr => ∃ k : Nat, k ≤ n ∧ i = .int .i64 k ∧ RowKit.Hid (Kd.R k83 83 wr w.heap.size (fun _ => True) v (pairsP p n k)) ∧ RowKit.Hid (Below w.heap.size w wr)) (fun _ i _ => n - (intOf i).toNat)
  case atStart => exact ⟨0, Nat.zero_le _, rfl, Lib.hid HO.out, HB⟩
  case round =>
    obtain ⟨i, hi, rfl, HR, HW⟩ := hrel
    by_cases hlt : i < n
    · have hlt2 : (i : Int) < (n : Int) := by omega
      go_wp2
      go_loopw [5, 14] (fun v j wr => ∃ k : Nat, k ≤ n ∧ j = .int .i64 k ∧ RowKit.Hid (Kd.R k83 83 wr w.heap.size (fun _ => True) v (pairsP p n i ++ rowP p i k)) ∧ RowKit.Hid (Below w.heap.size w wr)) (fun _ j _ => n - (intOf j).toNat)
      case atStart => exact ⟨0, Nat.zero_le _, rfl, Lib.hid (by rw [rowP_zero, List.append_nil]; exact HR.out), HW⟩
      case round =>
        obtain ⟨k, hk, rfl, HR2, HW2⟩ := hrel
        by_cases hlt3 : k < n
        · have hlt4 : (k : Int) < (n : Int) := by omega
          have hcall := HC.out i hlt k hlt3 wr HW2.out
          cases hq : p i k with
          | true =>
            rw [hq] at hcall
            have Q := Lib.hid hq
            have hlen : (pairsP p n i ++ rowP p i k).length ≤ 1001000 := by
              rw [List.length_append]
              have h1 := pairsP_len p n i
              have h2 := rowP_len p i k
              have h3 : i * n ≤ 1000 * 1000 := Nat.mul_le_mul (by omega) (by omega)
              omega
            have HL := Lib.hid hlen
            clear hq hlen
            go_wp2_with (first | (go_at_fn g; refine hcall.mono ?_; rintro e w' ⟨rfl, hb'⟩; have HR3 := Lib.hid (Kd.R_below HR2.out hb'); have HW3 := Lib.hid (below_step HW2.out hb'); clear hb' hcall) | ((with_reducible refine gate_builtin (b := .append) (xs := #[.tmp 21, .tmp 25]) rfl ?_); at_builtin; refine Kd.R_append k83 (w0 := w) w.heap.size rfl (.tmp 21) (.tmp 25) 51 83 (.agg #[(.int .i64 0), (.int .i64 0)]) 16 rfl Tryd.underlying51 info83 rfl (by decide) (by omega) u5 (pairsP p n i ++ rowP p i k) (⟨(i : Int), (k : Int)⟩ : PR) [.int .i64 i, .int .i64 k] (fun _ => True) (fun _ => False) rfl rfl ?aP (fun _ hk => hk.elim) ?aF ?aO ?aB ?aS ?aL ?_; (case aP => exact k83_mkM _ _ _ (⟨(i : Int), (k : Int)⟩ : PR)); (case aB => exact HW3.out); (case aF => exact (fun _ _ => trivial)); (case aO => exact HR3.out); (case aS => exact HW3.out.size); (case aL => have := HL.out; omega); intro v2 w2 ho hb hg hat; have HR4 := Lib.hid ho; have HW4 := Lib.hid hb; clear ho hb hg hat))
            go_roundw
            case measure => simp only [intOf]; omega
            case rel => exact ⟨k + 1, by omega, by go_num, Lib.hid (by rw [rowP_hit p i k Q.out, ← List.append_assoc]; exact HR4.out), HW4⟩
          | false =>
            rw [hq] at hcall
            have Q := Lib.hid hq
            clear hq
            go_wp2_with (go_at_fn g; refine hcall.mono ?_; rintro e w' ⟨rfl, hb'⟩)
            go_roundw
            case measure => simp only [intOf]; omega
            case rel => exact ⟨k + 1, by omega, by go_num, Lib.hid (by rw [rowP_miss p i k Q.out]; exact Kd.R_below HR2.out hb'), Lib.hid (below_step HW2.out hb')⟩
        · have hlt4 : ¬ (k : Int) < (n : Int) := by omega
          have E : k = n := by omega
          have HR5 := Lib.hid (E ▸ HR2.out)
          clear E
          go_wp2
          go_roundw
          case measure => simp only [intOf]; omega
          case rel => exact ⟨i + 1, by omega, by go_num, Lib.hid (by rw [pairsP_step]; exact HR5.out), HW2⟩
    · have hlt2 : ¬ (i : Int) < (n : Int) := by omega
      have E : i = n := by omega
      have HR2 := Lib.hid (E ▸ HR.out)
      clear E
      go_wp2
      go_ret
      exact ⟨_, rfl, HR2.out, HW.out⟩
end Go.Proofs.YteahgkijaehobaaDoor.Q
