/- impl.indices: the numbers below n that a function value accepts. -/
import Derived.Test.YteahgkijaehobaaDoorQhandFunc
namespace Go.Proofs.YteahgkijaehobaaDoor.Q
open Go.RowKit Go.Proofs.YteahgkijaehobaaDoorW.PrintWords Go.Proofs.YteahgkijaehobaaDoorW.PrintLast Go.Proofs.YteahgkijaehobaaDoorW.PrintMore
set_option linter.unusedVariables false

def selL (p : Nat → Bool) (k : Nat) : List Int := ((List.range k).filter p).map fun (j : Nat) => (j : Int)
theorem selL_zero (p : Nat → Bool) : selL p 0 = [] := rfl
theorem selL_hit (p : Nat → Bool) (k : Nat) (h : p k = true) : selL p (k + 1) = selL p k ++ [(k : Int)] := by
  simp [selL, List.range_succ, List.filter_append, h]
theorem selL_miss (p : Nat → Bool) (k : Nat) (h : p k = false) : selL p (k + 1) = selL p k := by
  simp [selL, List.range_succ, List.filter_append, h]
theorem selL_len (p : Nat → Bool) (k : Nat) : (selL p k).length ≤ k := by
  unfold selL
  rw [List.length_map]
  have := List.length_filter_le p (List.range k)
  simpa using this

set_option maxHeartbeats 2000000 in
theorem impl_indices.calls (g : Nat) (lb : Array Value) (p : Nat → Bool) (n : Nat) (w : World) (eg : ∀ args w, (callFunc g args).run Tryd.prog w = .ok (.enter g args) w) (hn : n ≤ 1000000)
    (hc : ∀ i < n, ∀ W, Below w.heap.size w W → Calls Tryd.prog g (#[.int .i64 i] ++ lb) W fun e w' => e = .returned (.bool (p i)) ∧ Below W.heap.size W w') :
    Calls Tryd.prog 78 #[.int .i64 n, .func (.func g) #[] lb] w fun e w' => ∃ v, e = .returned v ∧ Kd.R (Kd.int .i64) 2 w' w.heap.size (fun _ => True) v (selL p n) ∧ Below w.heap.size w w' := by
  have HC := Lib.hid hc
  clear hc
  go_enter Tryd.func78, Tryd.ntmps78
  go_wp2_with (first | ((with_reducible refine gate_dst (N := 7) rfl ?_); refine Kd.R_lit (Kd.int .i64) _ 2 ?hg (N := 7) ?hd (xs := ([] : List Int)) (inner := []) (ok := fun _ => True) (okp := fun _ => True) ?hr ?hp (fun _ hk => hk) trivial (Below.refl _ _) (Nat.le_refl _) (by simp) ?_; (case hd => rfl); (case hg => rfl); (case hr => first | (go_simp; done) | (go_simp; rfl)); (case hp => exact (Reps.none _ _)); intro v0 w7 ho8 hb hg_ hnew_; clear hg_ hnew_; have HO := Lib.hid ho8; have HB := Lib.hid hb; clear ho8 hb))
  go_loopw [5, 9] (fun v i wr => ∃ k : Nat, k ≤ n ∧ i = .int .i64 k ∧ RowKit.Hid (Kd.R (Kd.int .i64) 2 wr w.heap.size (fun _ => True) v (selL p k)) ∧ RowKit.Hid (Below w.heap.size w wr)) (fun _ i _ => n - (intOf i).toNat)
  case atStart => exact ⟨0, Nat.zero_le _, rfl, Lib.hid HO.out, HB⟩
  case round =>
    obtain ⟨k, hk, rfl, HR, HW⟩ := hrel
    by_cases hlt : k < n
    · have hlt2 : (k : Int) < (n : Int) := by omega
      have hcall := HC.out k hlt wr HW.out
      cases hq : p k with
      | true =>
        rw [hq] at hcall
        have Q := Lib.hid hq
        clear hq
        go_wp2_with (first | (go_at_fn g; refine hcall.mono ?_; rintro e w' ⟨rfl, hb'⟩; have HR3 := Lib.hid (Kd.R_below HR.out hb'); have HW3 := Lib.hid (below_step HW.out hb'); clear hb' hcall) | ((with_reducible refine gate_builtin (b := .append) (xs := #[.tmp 15, .tmp 17]) rfl ?_); at_builtin; refine Kd.R_append (Kd.int .i64) (w0 := w) w.heap.size rfl (.tmp 15) (.tmp 17) 28 2 (.int .i64 0) 8 rfl Tryd.underlying28 info2 rfl (by decide) (by omega) u5 (selL p k) (k : Int) [.int .i64 k] (fun _ => True) (fun _ => False) rfl rfl ?aP (fun _ hk => hk.elim) ?aF ?aO ?aB ?aS ?aL ?_; (case aP => exact rfl); (case aB => exact HW3.out); (case aF => exact (fun _ _ => trivial)); (case aO => exact HR3.out); (case aS => exact HW3.out.size); (case aL => have := selL_len p k; omega); intro v2 w2 ho hb hg hat; have HR4 := Lib.hid ho; have HW4 := Lib.hid hb; clear ho hb hg hat))
        go_roundw
        case measure => simp only [intOf]; omega
        case rel => exact ⟨k + 1, by omega, by go_num, Lib.hid (by rw [selL_hit p k Q.out]; exact HR4.out), HW4⟩
      | false =>
        rw [hq] at hcall
        have Q := Lib.hid hq
        clear hq
        go_wp2_with (go_at_fn g; refine hcall.mono ?_; rintro e w' ⟨rfl, hb'⟩)
        go_roundw
        case measure => simp only [intOf]; omega
        case rel => exact ⟨k + 1, by omega, by go_num, Lib.hid (by rw [selL_miss p k Q.out]; exact Kd.R_below HR.out hb'), Lib.hid (below_step HW.out hb')⟩
    · have hlt2 : ¬ (k : Int) < (n : Int) := by omega
      have E : k = n := by omega
      have HR2 := Lib.hid (E ▸ HR.out)
      clear E
      go_wp2
      go_ret
      exact ⟨_, rfl, HR2.out, HW.out⟩
end Go.Proofs.YteahgkijaehobaaDoor.Q
