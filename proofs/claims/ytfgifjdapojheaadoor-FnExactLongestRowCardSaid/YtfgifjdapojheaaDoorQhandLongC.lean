/- spec.LongestRow by hand; both LongestRow's contracts in the printed form. -/
import Derived.Test.YtfgifjdapojheaaDoorQhandFrom
import Derived.Test.YtfgifjdapojheaaDoorQspecl04Pieces
namespace Go.Proofs.YtfgifjdapojheaaDoor.Q
open Go.RowKit Go.Proofs.YtfgifjdapojheaaDoorW.PrintWords Go.Proofs.YtfgifjdapojheaaDoorW.PrintLast Go.Proofs.YtfgifjdapojheaaDoorW.PrintMore
open Go.Proofs.YtfgifjdapojheaaDoor.Pure
set_option linter.unusedVariables false
set_option linter.unusedSimpArgs false

theorem longGo_len (l : List S44) : ∀ (d : Nat) (row best : List Int) (m : Nat), row.length + d ≤ m + 1 → best.length ≤ m → row.length ≤ m → (longGo l d row best).length ≤ m
  | 0, row, best, m, h1, h2, h3 => h2
  | d + 1, row, best, m, h1, h2, h3 => by
    have key : ∀ i, (longAt l d row best i).length ≤ m := by
      intro i
      induction i with
      | zero =>
        show (ups row best).length ≤ m
        unfold ups
        split <;> assumption
      | succ i ih =>
        rw [longAt_step]
        split
        · by_cases hd : d = 0
          · subst hd
            exact ih
          · exact longGo_len l d _ _ m (by rw [List.length_append, List.length_singleton]; omega) ih (by rw [List.length_append, List.length_singleton]; omega)
        · exact ih
    exact key l.length
set_option maxHeartbeats 2000000 in
theorem specLongC (l : List S44) (A : Option Addr) (c : Nat) (w : World) (hr : Kd.C k44 w A l.length l) (hc : l.length ≤ c) (r1 : List Int) (r2 : Int) (h : longR l = (r1, r2)) :
    Calls Tryd.prog 5 #[.slice A l.length c] w fun e w' => ∃ v0_ : Value, e = .returned (.tuple #[v0_, .int .i64 r2]) ∧ Kd.R (Kd.int .i64) 2 w' w.heap.size (fun _ => True) v0_ r1 ∧ Below w.heap.size w w' := by
  have hm := Kd.C_max hr
  have HR := Lib.hid hr
  have HC := Lib.hid hc
  have HV := Lib.hid (spec_l04Pieces.val l hm (l.length + 22) (by omega))
  clear hr hc hm
  unfold longR at h
  cases hp : piecesB l with
  | false =>
    rw [hp, if_neg (by simp)] at h
    obtain ⟨rfl, rfl⟩ := Prod.mk.inj h
    have HP := Lib.hid (HV.out.trans (congrArg some hp))
    clear hp h
    go_enter Tryd.func5, Tryd.ntmps5
    go_wp2_with (first
      | (go_at_call 14
         with_reducible refine (spec_l04Pieces.calls (l.length + 22) A c l false _ HR.out HC.out HP.out).mono ?_
         rintro e w1 ⟨rfl, hb⟩
         have B1 := Lib.hid (show Below w.heap.size w w1 from by obtain ⟨nd, rfl⟩ := hb; exact pw_below_drewN (Below.refl _ _) nd)
         clear hb)
      | ((with_reducible refine gate_dst (N := 8) rfl ?_); refine Kd.R_lit (Kd.int .i64) _ 2 ?hg (N := 8) ?hd (xs := ([] : List Int)) (inner := []) (ok := fun _ => True) (okp := fun _ => True) ?hr ?hp (fun _ hk => hk) trivial (Below.refl _ _) (Nat.le_refl _) (by simp) ?_; (case hd => rfl); (case hg => rfl); (case hr => first | (go_simp; done) | (go_simp; rfl)); (case hp => exact (Reps.none _ _)); intro v0 w7 ho8 hb hg_ hnew_; clear hg_ hnew_
         have R7 := Lib.hid (Kd.R_lower ho8 (show w.heap.size ≤ w1.heap.size from B1.out.size))
         have B7 := Lib.hid (below_step B1.out hb)
         clear ho8 hb))
    go_ret2
    exact ⟨_, rfl, R7.out, B7.out⟩
  | true =>
    rw [hp, if_pos rfl] at h
    obtain ⟨rfl, rfl⟩ := Prod.mk.inj h
    have HL := Lib.hid (small_of hp)
    have HPB := Lib.hid hp
    have HLL := Lib.hid (show (longGo l (l.length + 1) [] []).length ≤ 8 from longGo_len l (l.length + 1) [] [] 8 (by have := HL.out; simp; omega) (Nat.zero_le _) (Nat.zero_le _))
    have HP := Lib.hid (HV.out.trans (congrArg some hp))
    clear hp h
    go_enter Tryd.func5, Tryd.ntmps5
    go_wp2_with (first
      | (go_at_call 14
         with_reducible refine (spec_l04Pieces.calls (l.length + 22) A c l true _ HR.out HC.out HP.out).mono ?_
         rintro e w1 ⟨rfl, hb⟩
         have B1 := Lib.hid (show Below w.heap.size w w1 from by obtain ⟨nd, rfl⟩ := hb; exact pw_below_drewN (Below.refl _ _) nd)
         clear hb)
      | ((with_reducible refine gate_dst (N := 13) rfl ?_); refine Kd.R_lit (Kd.int .i64) _ 2 ?hg (N := 13) ?hd (xs := ([] : List Int)) (inner := []) (ok := fun _ => True) (okp := fun _ => True) ?hr ?hp (fun _ hk => hk) trivial (Below.refl _ _) (Nat.le_refl _) (by simp) ?_; (case hd => rfl); (case hg => rfl); (case hr => first | (go_simp; done) | (go_simp; rfl)); (case hp => exact (Reps.none _ _)); intro v0 w7 ho8 hb hg_ hnew_; clear hg_ hnew_
         have BB := Lib.hid (below_alloc (Below.refl w1.heap.size w1) (.cells #[.slice A l.length c, .slice none 0 0, .slice none 0 0, .slice none 0 0] 42))
         have IB := Lib.hid (show SH A c l.length w1.heap.size (.slice none 0 0) w (w1.alloc (.cells #[.slice A l.length c, .slice none 0 0, .slice none 0 0, .slice none 0 0] 42)) from ⟨B1.out.size, heap_alloc_new _ _, below_step B1.out BB.out⟩)
         have I7 := Lib.hid (IB.out.step hb)
         have R7 := Lib.hid (Kd.R_lower (ok := fun k => k ≠ w1.heap.size) (Kd.R_mono (Kd.R_bound ho8) (fun k hk => by have h1 := hk.2.1; have h2 := blk_lt IB.out.k; omega)) (show w.heap.size ≤ _ from IB.out.b.size))
         clear ho8 hb)
      | (go_at_call 15
         with_reducible refine (fromC l HPB.out A c HC.out w HR.out w1.heap.size (l.length + 1) [] [] v0 (.slice none 0 0) ⟨#[]⟩ _ (by rw [leftN_nil]; omega) (by have := HL.out; simp; omega) (by have := HL.out; rw [show (⟨#[]⟩ : ByteArray).size = 0 from rfl]; omega) rfl I7.out R7.out (Kd.R_nil _ _ _ _ _)).mono ?_
         rintro e w9 ⟨rfl, vb, hI, hR, hG⟩
         have I9 := Lib.hid hI
         obtain ⟨B9, d9, rfl⟩ := Kd.R_slice hR
         have R9 := Lib.hid hR
         have g9 := I9.out.c2
         clear hI hR hG)
      | ((with_reducible refine gate_dst (N := 15) rfl ?_); refine Kd.R_lit (Kd.int .i64) _ 2 ?hg (N := 15) ?hd (xs := ([] : List Int)) (inner := []) (ok := fun _ => True) (okp := fun _ => True) ?hr ?hp (fun _ hk => hk) trivial (Below.refl _ _) (Nat.le_refl _) (by simp) ?_; (case hd => rfl); (case hg => rfl); (case hr => first | (go_simp; done) | (go_simp; rfl)); (case hp => exact (Reps.none _ _)); intro v1 w10 ho8 hb hg_ hnew_; clear hg_ hnew_
         have IX := Lib.hid (I9.out.step hb)
         have RX := Lib.hid (Kd.R_below R9.out hb)
         have RN := Lib.hid (Kd.R_lower ho8 (show w.heap.size ≤ w9.heap.size from I9.out.b.size))
         have g10 := IX.out.c2
         clear ho8 hb g9)
      | ((with_reducible refine gate_builtin (b := .append) (xs := #[.tmp 15, .tmp 19]) rfl ?_); at_builtin; refine Kd.R_append_rows (Kd.int .i64) (w0 := w) w.heap.size rfl (.tmp 15) (.tmp 19) 24 2 (.int .i64 0) 8 rfl Tryd.underlying24 info2' rfl (by decide) (by omega) v1 [] (longGo l (l.length + 1) [] []) _ _ _ (fun _ => True) (fun _ => False) rfl rfl ?aO ?aR (fun _ _ h => h) (fun _ h => h.elim) ?aF ?aB ?aS ?aL ?_; (case aO => exact RN.out); (case aR => exact (Kd.R_reads' RX.out).2.2); (case aF => exact fun _ _ => trivial); (case aB => exact IX.out.b); (case aS => exact IX.out.b.size); (case aL => have := HLL.out; simp; omega); intro v2 w12 ho hb hg hat
         have R12 := Lib.hid (show Kd.R (Kd.int .i64) 2 w12 w.heap.size (fun _ => True) v2 (longGo l (l.length + 1) [] []) from ho)
         have B12 := Lib.hid hb
         clear ho hb hg hat))
    go_ret2
    exact ⟨_, rfl, R12.out, B12.out⟩

def spec_LongestRow.f (l : List S44) : Option (List Int × Int) := some (longR l)
def impl_LongestRow.f (l : List S44) : Option (List Int × Int) := some (longR l)
theorem spec_LongestRow.calls (A0 : Option Addr) (c0 : Nat) (l0 : List S44) (r1 : List Int) (r2 : Int) (w : World) (hr0 : Kd.C k44 w A0 l0.length l0) (hc0 : l0.length ≤ c0) (h : spec_LongestRow.f l0 = some (r1, r2)) :
    Calls Tryd.prog 5 #[.slice A0 l0.length c0] w fun e w' => ∃ v0_ : Value, e = .returned (.tuple #[v0_, .int .i64 r2]) ∧ Kd.R (Kd.int .i64) 2 w' w.heap.size (fun _ => True) v0_ r1 ∧ Below w.heap.size w w' :=
  specLongC l0 A0 c0 w hr0 hc0 r1 r2 (Option.some.inj h)
theorem impl_LongestRow.calls (A0 : Option Addr) (c0 : Nat) (l0 : List S44) (r1 : List Int) (r2 : Int) (w : World) (hG_ : Glob w) (hr0 : Kd.C k44 w A0 l0.length l0) (hc0 : l0.length ≤ c0) (h : impl_LongestRow.f l0 = some (r1, r2)) :
    Calls Tryd.prog 7 #[.slice A0 l0.length c0] w fun e w' => ∃ v0_ : Value, e = .returned (.tuple #[v0_, .int .i64 r2]) ∧ Kd.R (Kd.int .i64) 2 w' w.heap.size (fun _ => True) v0_ r1 ∧ Below w.heap.size w w' :=
  implLongC l0 A0 c0 w hG_ hr0 hc0 r1 r2 (Option.some.inj h)
end Go.Proofs.YtfgifjdapojheaaDoor.Q
