/- slices.DeleteFunc over a list of texts of one's own, whatever function is handed on that answers a bool and leaves old memory as it was. -/
import Derived.Test.YtdhhnkhgmoblhaaDoorQhandFuncT
import Derived.Test.YtdhhnkhgmoblhaaDoorQhandTwo
import Derived.Lib.SliceRun
namespace Go.Proofs.YtdhhnkhgmoblhaaDoor.Q
open Go.RowKit Go.Proofs.YtdhhnkhgmoblhaaDoorW.PrintWords Go.Proofs.YtdhhnkhgmoblhaaDoorW.PrintLast Go.Proofs.YtdhhnkhgmoblhaaDoorW.PrintMore
open Go.Proofs.YtdhhnkhgmoblhaaDoor.Pure
set_option linter.unusedVariables false
set_option linter.unusedSimpArgs false

theorem R_own0 {α : Type} {d : Kd α} {e : Nat} {w : World} {base : Nat} {ok : Nat → Prop} {A : Option Addr} {n c : Nat} {xs : List α} (h : d.R e w base ok (.slice A n c) xs) (hn : 0 < xs.length) : ∃ g, A = some ⟨g, 0, none⟩ ∧ base ≤ g ∧ xs.length ≤ c := by
  obtain ⟨h0, inner, ho, hr⟩ := h
  rcases ho.2 with ⟨h1, h2⟩ | ⟨g, cap, cur, h1, h2, h3, h4, _⟩
  · omega
  · injection h1 with e1 e2 e3
    exact ⟨g, e1, h2, by omega⟩
theorem setCells_below {B : Nat} (zs : List Value) : ∀ (W0 W : World) (g o : Nat), Below B W0 W → B ≤ g → Below B W0 (W.setCells g o zs) := by
  induction zs with
  | nil => intro W0 W g o h _; exact h
  | cons z zs ih => intro W0 W g o h hg; exact ih W0 _ g (o + 1) (h.setCell hg _) hg
theorem R_clear {e : Nat} {base : Nat} {ok : Nat → Prop} {g n cap i : Nat} : ∀ (k o : Nat) (W : World) (xs : List ByteArray), i ≤ o → Kd.R Kd.string e W base ok (.slice (some ⟨g, 0, none⟩) n cap) xs →
    ∃ xs', Kd.R Kd.string e (W.setCells g o (List.replicate k (Value.string ⟨#[]⟩))) base ok (.slice (some ⟨g, 0, none⟩) n cap) xs' ∧ xs'.take i = xs.take i ∧ xs'.length = xs.length := by
  intro k
  induction k with
  | zero => intro o W xs _ h; exact ⟨xs, h, rfl, rfl⟩
  | succ k ih =>
    intro o W xs hio h
    have h2 := Kd.R_putn h (o : Int) (⟨#[]⟩ : ByteArray)
    rw [Int.toNat_natCast] at h2
    obtain ⟨xs', h3, h4, h5⟩ := ih (o + 1) _ _ (by omega) h2
    refine ⟨xs', h3, ?_, by rw [h5, List.length_set]⟩
    rw [h4, List.take_set_of_le hio]
theorem take_filter_none {α : Type} (p : α → Bool) (l : List α) (h : l.any p = false) : l.filter (fun x => !p x) = l := by
  rw [List.filter_eq_self]
  intro x hx
  have := List.any_eq_false.1 h x hx
  simpa using this
theorem any_first {α : Type} (p : α → Bool) : ∀ (l : List α), l.any p = true → ∃ k, ∃ h : k < l.length, (l.take k).any p = false ∧ p l[k] = true := by
  intro l
  induction l with
  | nil => intro h; simp at h
  | cons x l ih =>
    intro h
    by_cases hx : p x = true
    · exact ⟨0, by simp, rfl, hx⟩
    · have hx2 : p x = false := by simpa using hx
      rw [List.any_cons, hx2, Bool.false_or] at h
      obtain ⟨k, hk, h1, h2⟩ := ih h
      refine ⟨k + 1, by simpa using hk, ?_, by simpa using h2⟩
      rw [List.take_succ_cons, List.any_cons, hx2, h1]
      rfl
/-- What lies in the row while it is gone through. -/
def rowAt (p : ByteArray → Bool) (xs : List ByteArray) (j : Nat) : List ByteArray := (xs.take j).filter (fun x => !p x) ++ xs.drop ((xs.take j).filter (fun x => !p x)).length
theorem kept_le (p : ByteArray → Bool) (xs : List ByteArray) (j : Nat) : ((xs.take j).filter (fun x => !p x)).length ≤ j := Nat.le_trans (List.length_filter_le _ _) (by rw [List.length_take]; omega)
theorem kept_le2 (p : ByteArray → Bool) (xs : List ByteArray) (j : Nat) : ((xs.take j).filter (fun x => !p x)).length ≤ xs.length := Nat.le_trans (List.length_filter_le _ _) (by rw [List.length_take]; omega)
theorem rowAt_len (p : ByteArray → Bool) (xs : List ByteArray) (j : Nat) : (rowAt p xs j).length = xs.length := by
  have := kept_le2 p xs j
  unfold rowAt
  rw [List.length_append, List.length_drop]
  omega
theorem rowAt_get (p : ByteArray → Bool) (xs : List ByteArray) (j : Nat) (h : j < xs.length) : rdOf ByteArray.empty (rowAt p xs j) (j : Int) = xs[j] := by
  rw [rdOf_get _ _ _ (by rw [rowAt_len]; exact h)]
  have := kept_le p xs j
  unfold rowAt
  rw [List.getElem_append_right this, List.getElem_drop]
  congr 1
  omega
theorem rowAt_skip (p : ByteArray → Bool) (xs : List ByteArray) (j : Nat) (h : j < xs.length) (hp : p xs[j] = true) : rowAt p xs (j + 1) = rowAt p xs j ∧ ((xs.take (j + 1)).filter (fun x => !p x)).length = ((xs.take j).filter (fun x => !p x)).length := by
  have e : (xs.take (j + 1)).filter (fun x => !p x) = (xs.take j).filter (fun x => !p x) := by
    rw [List.take_succ_eq_append_getElem h, List.filter_append, List.filter_cons]
    simp [hp]
  unfold rowAt
  rw [e]
  exact ⟨rfl, rfl⟩
theorem rowAt_keep (p : ByteArray → Bool) (xs : List ByteArray) (j : Nat) (h : j < xs.length) (hp : p xs[j] = false) : rowAt p xs (j + 1) = (rowAt p xs j).set ((xs.take j).filter (fun x => !p x)).length xs[j] ∧ ((xs.take (j + 1)).filter (fun x => !p x)).length = ((xs.take j).filter (fun x => !p x)).length + 1 := by
  have e : (xs.take (j + 1)).filter (fun x => !p x) = (xs.take j).filter (fun x => !p x) ++ [xs[j]] := by
    rw [List.take_succ_eq_append_getElem h, List.filter_append, List.filter_cons]
    simp [hp]
  have hl := kept_le p xs j
  unfold rowAt
  rw [e, List.length_append]
  refine ⟨?_, rfl⟩
  rw [List.set_append_right _ _ (Nat.le_refl _), Nat.sub_self, List.append_assoc, List.drop_eq_getElem_cons (show ((xs.take j).filter (fun x => !p x)).length < xs.length by omega), List.set_cons_zero]
  rfl

set_option maxHeartbeats 2000000 in
theorem delete_func_string (g : Nat) (lb : Array Value) (p : ByteArray → Bool) (xs : List ByteArray) (A : Option Addr) (c base : Nat) (ok : Nat → Prop) (w : World) (eg : ∀ args w, (callFunc g args).run Tryd.prog w = .ok (.enter g args) w) (hR : Kd.R Kd.string 9 w base ok (.slice A xs.length c) xs) (hbase : base ≤ w.heap.size) (hmax : xs.length ≤ 1048576)
    (hc : ∀ x ∈ xs, ∀ W, Below base w W → Calls Tryd.prog g (#[.string x] ++ lb) W fun e w' => e = .returned (.bool (p x)) ∧ Below W.heap.size W w') :
    Calls Tryd.prog 72 #[.slice A xs.length c, .func (.func g) #[] lb] w fun e w' => e = .returned (.slice A (xs.filter (fun x => !p x)).length c) ∧ Kd.R Kd.string 9 w' base ok (.slice A (xs.filter (fun x => !p x)).length c) (xs.filter (fun x => !p x)) ∧ Below base w w' := by
  have HI := Lib.hid (index_func_string g lb p xs A c w eg (Kd.R_reads' hR).2.2 (fun x hx W hW => (hc x hx W (below_size2 _ hW hbase)).mono (fun e w' ⟨h1, h2⟩ => ⟨h1, below_step hW h2⟩)))
  have HR := Lib.hid hR
  have HC := Lib.hid hc
  have HB := Lib.hid hbase
  clear hR hc hbase
  by_cases hany : xs.any p = true
  rotate_left
  · have hn : xs.any p = false := by simpa using hany
    have e1 := firstAt_miss p xs 0 hn
    have e2 := Lib.hid (take_filter_none p xs hn)
    rw [e1] at HI
    clear hany e1
    rw [e2.out]
    clear e2 hn
    go_enter Tryd.func72, Tryd.ntmps72
    go_wp2_with (go_at_call 77; with_reducible refine HI.out.mono ?_; rintro e w1 ⟨rfl, hb⟩)
    go_ret
    exact ⟨rfl, Kd.R_below HR.out hb, below_size2 _ hb HB.out⟩
  · obtain ⟨k0, hk0, hn, hp⟩ := any_first p xs hany
    have e1 := firstAt_hit p xs k0 hk0 hn hp 0
    rw [e1] at HI
    obtain ⟨b, eA, hbb, hcap⟩ := R_own0 HR.out (by omega)
    subst eA
    have HK := Lib.hid (take_filter_none p (xs.take k0) hn)
    have HS := Lib.hid (rowAt_skip p xs k0 hk0 hp)
    have d0 : ((k0 : Int) == -1) = false := beq_eq_false_iff_ne.2 (by omega)
    have d1 : decide ((k0 : Int) = -1) = false := decide_eq_false (by omega)
    simp only [Nat.add_zero] at HI
    clear hany e1
    go_enter Tryd.func72, Tryd.ntmps72
    go_wp2_with (go_at_call 77; with_reducible refine HI.out.mono ?_; rintro e w1 ⟨rfl, hb⟩; have HB1 := Lib.hid hb; clear hb)
    have R1 := Lib.hid (show Kd.R Kd.string 9 w1 base ok (.slice (some ⟨b, 0, none⟩) xs.length c) (rowAt p xs (k0 + 1)) from by
      rw [HS.out.1]
      have e : rowAt p xs k0 = xs := by
        unfold rowAt
        rw [HK.out, List.length_take, Nat.min_eq_left (by omega), List.take_append_drop]
      rw [e]
      exact Kd.R_below HR.out HB1.out)
    have HB2 := Lib.hid (below_size2 _ HB1.out HB.out)
    have HL := Lib.hid (show ((xs.take (k0 + 1)).filter (fun x => !p x)).length = k0 from by rw [HS.out.2, HK.out, List.length_take]; omega)
    have HNL := Lib.hid (show k0 < k0 + 1 from by omega)
    clear HR HI HS HK hn hp d0 d1
    go_loopw [5, 6] (fun i jv wr => ∃ j : Nat, k0 < j ∧ j ≤ xs.length ∧ jv = .int .i64 j ∧ i = .int .i64 (((xs.take j).filter (fun x => !p x)).length : Nat) ∧ RowKit.Hid (((xs.take j).filter (fun x => !p x)).length < j) ∧ RowKit.Hid (Kd.R Kd.string 9 wr base ok (.slice (some ⟨b, 0, none⟩) xs.length c) (rowAt p xs j)) ∧ RowKit.Hid (Below base w wr)) (fun _ j _ => xs.length - (intOf j).toNat)
    case atStart => exact ⟨k0 + 1, by omega, by omega, by go_num, by rw [HL.out], Lib.hid (by rw [HL.out]; omega), R1, HB2⟩
    case round =>
      clear R1 HB1 HB2 HL
      obtain ⟨j, hkj, hj, rfl, rfl, HLT, R, HB2⟩ := hrel
      obtain ⟨il, hil⟩ : ∃ il, il = ((xs.take j).filter (fun x => !p x)).length := ⟨_, rfl⟩
      have hij : il < j := by rw [hil]; exact HLT.out
      rw [← hil]
      have HIL := Lib.hid hil
      clear hil HLT
      by_cases hlt : j < xs.length
      · have hlt2 : (j : Int) < (xs.length : Int) := by omega
        obtain ⟨cj, _⟩ := Kd.R_cell ByteArray.empty (xs := rowAt p xs j) (by have := R.out; rw [← rowAt_len p xs j] at this; exact this) (j : Int) (by omega) (by rw [rowAt_len]; omega)
        rw [rowAt_get p xs j hlt, Int.toNat_natCast] at cj
        obtain ⟨ci, fi⟩ := Kd.R_cell ByteArray.empty (xs := rowAt p xs j) (by have := R.out; rw [← rowAt_len p xs j] at this; exact this) (il : Int) (by omega) (by rw [rowAt_len]; omega)
        rw [Int.toNat_natCast] at ci fi
        have hcall := Lib.hid (HC.out xs[j] (List.getElem_mem hlt))
        have HKP := Lib.hid (rowAt_keep p xs j hlt)
        have HSK := Lib.hid (rowAt_skip p xs j hlt)
        obtain ⟨x, hx⟩ : ∃ x, x = xs[j] := ⟨_, rfl⟩
        rw [← hx] at cj hcall HKP HSK
        have hcj : Calls Tryd.prog g (#[.string x] ++ lb) wr _ := hcall.out wr HB2.out
        obtain ⟨old, hold⟩ : ∃ old, old = rdOf ByteArray.empty (rowAt p xs j) (il : Int) := ⟨_, rfl⟩
        rw [← hold] at ci
        clear hx hold hcall
        cases hq : p x with
        | true =>
          rw [hq] at hcj
          have HSK2 := Lib.hid (HSK.out hq)
          clear HKP HSK hq
          go_wp2_with (go_at_fn g; refine hcj.mono ?_; rintro e w2 ⟨rfl, hb⟩; have HB3 := Lib.hid hb; clear hb)
          go_roundw
          case measure => simp only [intOf]; omega
          case rel => exact ⟨j + 1, by omega, by omega, by go_num, by rw [HSK2.out.2, ← HIL.out], Lib.hid (by rw [HSK2.out.2, ← HIL.out]; omega), Lib.hid (by rw [HSK2.out.1]; exact Kd.R_below R.out HB3.out), Lib.hid (HB2.out.trans (below_size2 _ HB3.out (Nat.le_trans HB.out HB2.out.size)))⟩
        | false =>
          rw [hq] at hcj
          have HKP2 := Lib.hid (HKP.out hq)
          clear HKP HSK hq
          go_wp2_with (go_at_fn g; refine hcj.mono ?_; rintro e w2 ⟨rfl, hb⟩; have HB3 := Lib.hid hb; have ci2 := bcell hb ci; have fi2 : w2.frozen? ⟨b, il, none⟩ = false := (by have := Kd.R_cell ByteArray.empty (xs := rowAt p xs j) (by have := Kd.R_below R.out hb; rw [← rowAt_len p xs j] at this; exact this) (il : Int) (by omega) (by rw [rowAt_len]; omega); rw [Int.toNat_natCast] at this; exact this.2); clear hb ci fi)
          go_roundw
          case measure => simp only [intOf]; omega
          case rel =>
            have h9 := Kd.R_putn (Kd.R_below R.out HB3.out) (il : Int) x
            rw [Int.toNat_natCast] at h9
            exact ⟨j + 1, by omega, by omega, by go_num, by rw [HKP2.out.2, ← HIL.out]; go_num, Lib.hid (by rw [HKP2.out.2, ← HIL.out]; omega), Lib.hid (by rw [HKP2.out.1, ← HIL.out]; exact h9), Lib.hid ((HB2.out.trans (below_size2 _ HB3.out (Nat.le_trans HB.out HB2.out.size))).setCell hbb _)⟩
      · have hlt2 : ¬ (j : Int) < (xs.length : Int) := by omega
        have ej : xs.take j = xs := List.take_of_length_le (by omega)
        have hjl : j = xs.length := by omega
        have HIL2 := Lib.hid (show il = (xs.filter (fun x => !p x)).length from by rw [HIL.out, ej])
        have hcl : ∀ ty, (Builtin.clear_ #[37] ty #[.slice (some ⟨b, il, none⟩) (xs.length - il) (c - il)]).run Tryd.prog wr = .ok (.tuple #[]) (wr.setCells b il (List.replicate (xs.length - il) (Value.string ⟨#[]⟩))) := fun ty => by
          have hcells : ∀ k, k < xs.length - il → wr.cell? ⟨b, il + k, none⟩ = some (.string (rdOf ByteArray.empty (rowAt p xs j) ((il + k : Nat) : Int))) ∧ wr.frozen? ⟨b, il + k, none⟩ = false := fun k hk => by
            have := Kd.R_cell ByteArray.empty (xs := rowAt p xs j) (by have := R.out; rw [← rowAt_len p xs j] at this; exact this) ((il + k : Nat) : Int) (by omega) (by rw [rowAt_len]; omega)
            rw [Int.toNat_natCast] at this
            exact this
          exact Lib.run_clear_slice wr 37 9 ty (.string ⟨#[]⟩) Tryd.underlying37 Tryd.zeroValue9 rfl rfl b il (xs.length - il) (c - il) (by omega) (fun k hk => by rw [(hcells k hk).1]; rfl) (fun k hk => (hcells k hk).2)
        go_wp2
        go_ret
        obtain ⟨ys, h1, h2, h3⟩ := R_clear (i := il) (xs.length - il) il wr (rowAt p xs j) (Nat.le_refl _) R.out
        have h4 := Kd.R_take h1 (m := il) (by rw [h3, rowAt_len]; omega)
        have h5 : (rowAt p xs j).take il = xs.filter (fun x => !p x) := by
          unfold rowAt
          rw [ej, ← HIL2.out, HIL2.out, List.take_left' rfl]
        rw [h2, h5] at h4
        rw [← HIL2.out]
        exact ⟨rfl, h4, setCells_below _ _ _ _ _ HB2.out hbb⟩
end Go.Proofs.YtdhhnkhgmoblhaaDoor.Q
