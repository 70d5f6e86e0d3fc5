-- Joined by joinmods.py out of: ShelfJ QlibJ QhandFunc QimplJoinWords1 QhandJoinWords
import Derived.Test.YtimkkjkgbbfgbaaGreatDoorShelfL
import Derived.Test.YtimkkjkgbbfgbaaGreatDoorQ0
import Derived.Test.YtimkkjkgbbfgbaaGreatDoorPure2
import Derived.DataReads
import Derived.Test.YtimkkjkgbbfgbaaGreatDoorPure
import Derived.Outline
import Derived.Lib.Hide
import Derived.Shelf.Abstract
import Derived.Test.YtimkkjkgbbfgbaaGreatDoorGlob
import Derived.Test.YtimkkjkgbbfgbaaGreatDoorQWd
section
-- strings.Join lies in the shelf of this seat itself.
end
section
/- strings.Join in the printed form, out of the shelf. -/
namespace Go.Proofs.YtimkkjkgbbfgbaaGreatDoor.Q
open Go.RowKit Go.Proofs.YtimkkjkgbbfgbaaGreatDoorW.PrintWords Go.Proofs.YtimkkjkgbbfgbaaGreatDoorW.PrintLast Go.Proofs.YtimkkjkgbbfgbaaGreatDoorW.PrintMore
set_option linter.unusedVariables false

/-- The texts, laid one behind the other with a separator between them. -/
def joinB (l : List ByteArray) (sep : ByteArray) : ByteArray := ⟨(Lib.join (l.map (·.data.toList)) sep.data.toList).toArray⟩
theorem joinB_nil (sep : ByteArray) : joinB [] sep = ⟨#[]⟩ := rfl
theorem app_list (a b : ByteArray) : a ++ b = ⟨(a.data.toList ++ b.data.toList).toArray⟩ := by
  apply ByteArray.ext
  rw [ByteArray.data_append]
  apply Array.toList_inj.1
  simp
theorem joinB_one (x sep : ByteArray) : joinB [x] sep = x := by
  unfold joinB
  rw [List.map_singleton, Lib.join_one]
theorem joinB_snoc (l : List ByteArray) (x sep : ByteArray) (h : l ≠ []) : joinB (l ++ [x]) sep = joinB l sep ++ sep ++ x := by
  obtain ⟨y, r, rfl⟩ : ∃ y r, l = y :: r := by cases l with | nil => exact absurd rfl h | cons y r => exact ⟨y, r, rfl⟩
  rw [app_list, app_list]
  unfold joinB
  rw [List.cons_append, List.map_cons, List.map_cons, Lib.join_cons, Lib.join_cons]
  simp [Lib.joinTail]
theorem lens_le (M : Nat) : ∀ (l : List (List UInt8)), (∀ x ∈ l, x.length ≤ M) → Lib.lens l ≤ l.length * M := by
  intro l
  induction l with
  | nil => intro _; simp [Lib.lens]
  | cons x l ih =>
    intro h
    have h1 := ih (fun y hy => h y (List.mem_cons_of_mem _ hy))
    have h2 := h x (List.mem_cons_self ..)
    simp only [Lib.lens, List.map_cons, List.sum_cons, List.length_cons, Nat.add_mul, Nat.one_mul] at h1 ⊢
    omega
theorem joinB_size (l : List ByteArray) (sep : ByteArray) (M : Nat) (h : ∀ x ∈ l, x.size ≤ M) (hs : sep.size ≤ 1) : (Lib.join (l.map (·.data.toList)) sep.data.toList).length ≤ l.length * (M + 1) := by
  cases l with
  | nil => simp [Lib.join_nil]
  | cons x r =>
    rw [List.map_cons, Lib.join_cons, List.length_append, Lib.joinTail_length, data_length]
    have h1 := h x (List.mem_cons_self ..)
    have h2 := lens_le M (r.map (·.data.toList)) (fun y hy => by
      obtain ⟨z, hz, rfl⟩ := List.mem_map.1 hy
      rw [data_length]
      exact h z (List.mem_cons_of_mem _ hz))
    rw [List.length_map] at h2 ⊢
    rw [data_length]
    have h3 : sep.size * r.length ≤ 1 * r.length := Nat.mul_le_mul_right _ hs
    have h4 : (x :: r).length * (M + 1) = r.length * M + r.length + M + 1 := by rw [List.length_cons, Nat.add_mul, Nat.mul_add]; omega
    omega
def joinFine (l : List ByteArray) : Prop := l.length ≤ 1048576 ∧ ∀ x ∈ l, x.size ≤ 1048576
theorem strings_Join.callsN (A0 : Option Addr) (c0 : Nat) (l0 : List ByteArray) (a1 : ByteArray) (w : World) (hr0 : Kd.C Kd.string w A0 l0.length l0) (hc0 : l0.length ≤ c0) (hf : joinFine l0) (hs : a1.size ≤ 1) :
    Calls Tryz.prog 36 #[.slice A0 l0.length c0, .string a1] w fun e w' => e = .returned (.string (joinB l0 a1)) ∧ Below w.heap.size w w' := by
  by_cases h0 : l0.length = 0
  · have : l0 = [] := List.length_eq_zero_iff.1 h0
    subst this
    refine (Tryz.strings_Join_none A0 c0 a1 w).mono ?_
    rintro e w' ⟨rfl, rfl⟩
    exact ⟨rfl, Below.refl _ _⟩
  · obtain ⟨⟨b, o, sp⟩, rfl, hx⟩ := Kd.at_string hr0 0 (by omega) (by omega)
    have hsp := World.cell?_spot hx
    have hsp2 : sp = none := by simpa [Addr.add] using hsp
    subst hsp2
    have hcells : ∀ (j : Nat) x, l0[j]? = some x → w.cell? ⟨b, o + j, none⟩ = some (.string x) := by
      intro j x hj
      obtain ⟨hlt, rfl⟩ := List.getElem?_eq_some_iff.1 hj
      obtain ⟨ad2, e2, hy⟩ := Kd.at_string hr0 (j : Int) (by omega) (by omega)
      cases e2
      rw [Int.toNat_natCast, Pure.rdOf_get _ _ _ hlt] at hy
      rw [← hy]
      congr 1
      unfold Addr.add
      by_cases hj0 : j = 0
      · rw [if_pos hj0, hj0]
        rfl
      · rw [if_neg hj0]
    have hsz := joinB_size l0 a1 1048576 hf.2 hs
    have hmul : l0.length * (1048576 + 1) ≤ 1048576 * (1048576 + 1) := Nat.mul_le_mul_right _ hf.1
    have hbk : b < w.heap.size := by
      have := World.block_lt_of_cell? w _ (hcells 0 l0[0] (List.getElem?_eq_getElem (by omega)))
      exact this
    exact Tryz.strings_Join b o c0 l0 a1 w hcells hbk (by have := hf.1; omega) hc0 (by omega)
instance (l : List ByteArray) : Decidable (joinFine l) := by unfold joinFine; exact inferInstance
def strings_Join.f (l : List ByteArray) (sep : ByteArray) : Option ByteArray := if joinFine l ∧ sep.size ≤ 1 then some (joinB l sep) else none
theorem strings_Join.calls (A0 : Option Addr) (c0 : Nat) (l0 : List ByteArray) (a1 : ByteArray) (r : ByteArray) (w : World) (hr0 : Kd.C Kd.string w A0 l0.length l0) (hc0 : l0.length ≤ c0) (h : strings_Join.f l0 a1 = some r) :
    Calls Tryz.prog 36 #[.slice A0 l0.length c0, .string a1] w fun e w' => e = .returned (.string r) ∧ Below w.heap.size w w' := by
  unfold strings_Join.f at h
  split at h
  · rename_i hc
    cases h
    exact strings_Join.callsN A0 c0 l0 a1 w hr0 hc0 hc.1 hc.2
  · cases h
end Go.Proofs.YtimkkjkgbbfgbaaGreatDoor.Q
end
section
/- slices.ContainsFunc / IndexFunc over a list of texts, whatever function is handed on that answers a bool and leaves old memory as it was. -/
namespace Go.Proofs.YtimkkjkgbbfgbaaGreatDoor.Q
open Go.RowKit Go.Proofs.YtimkkjkgbbfgbaaGreatDoorW.PrintWords Go.Proofs.YtimkkjkgbbfgbaaGreatDoorW.PrintLast Go.Proofs.YtimkkjkgbbfgbaaGreatDoorW.PrintMore
set_option linter.unusedVariables false

/-- Where a search that has met no hit ends. -/
def firstAt {α : Type} (p : α → Bool) : List α → Nat → Int
  | [], _ => -1
  | x :: xs, k => if p x then k else firstAt p xs (k + 1)

theorem firstAt_hit {α : Type} (p : α → Bool) (xs : List α) (k : Nat) (h : k < xs.length) (hn : (xs.take k).any p = false) (hp : p xs[k] = true) (j : Nat) : firstAt p xs j = ((k + j : Nat) : Int) := by
  induction k generalizing xs j with
  | zero => cases xs with
    | nil => simp at h
    | cons x xs => simp at hp; simp [firstAt, hp]
  | succ k ih => cases xs with
    | nil => simp at h
    | cons x xs =>
      simp at hn hp h
      simp only [firstAt, hn.1, Bool.false_eq_true, if_false]
      rw [ih xs h (by simpa using hn.2) hp (j + 1)]
      congr 1; omega

theorem firstAt_miss {α : Type} (p : α → Bool) (xs : List α) (j : Nat) (hn : xs.any p = false) : firstAt p xs j = -1 := by
  induction xs generalizing j with
  | nil => rfl
  | cons x xs ih =>
    simp at hn
    simp only [firstAt, hn.1, Bool.false_eq_true, if_false]
    exact ih (j + 1) (by simpa using hn.2)

theorem firstAt_any {α : Type} (p : α → Bool) (xs : List α) (j : Nat) : (0 ≤ firstAt p xs j) = (xs.any p = true) := by
  induction xs generalizing j with
  | nil => simp [firstAt]
  | cons x xs ih =>
    by_cases h : p x = true
    · simp [firstAt, h]; 
    · have h2 : p x = false := by simpa using h
      simp only [firstAt, h2, List.any_cons, Bool.false_or, Bool.false_eq_true, if_false]
      exact ih (j + 1)

theorem rdOf_get {α : Type} (d : α) (xs : List α) (k : Nat) (h : k < xs.length) : rdOf d xs (k : Int) = xs[k] := by
  unfold rdOf
  simp [List.getD_eq_getElem?_getD, h]

theorem rd_get (xs : List Int) (k : Nat) (h : k < xs.length) : rd xs (k : Int) = xs[k] := by
  unfold rd
  simp [List.getD_eq_getElem?_getD, h]

theorem take_any_step {α : Type} (p : α → Bool) (xs : List α) (k : Nat) (h : k < xs.length) (hn : (xs.take k).any p = false) (hp : p xs[k] = false) : (xs.take (k + 1)).any p = false := by
  rw [List.take_succ_eq_append_getElem h, List.any_append, hn]
  simp [hp]

set_option maxHeartbeats 1000000 in
theorem index_func_string (g : Nat) (lb : Array Value) (p : ByteArray → Bool) (xs : List ByteArray) (A0 : Option Addr) (c0 : Nat) (w : World) (eg : ∀ args w, (callFunc g args).run Tryz.prog w = .ok (.enter g args) w) (hr : Kd.C (Kd.string) w A0 xs.length xs)
    (hc : ∀ x ∈ xs, ∀ W, Below w.heap.size w W → Calls Tryz.prog g (#[.string x] ++ lb) W fun e w' => e = .returned (.bool (p x)) ∧ Below w.heap.size w w') :
    Calls Tryz.prog 80 #[.slice A0 xs.length c0, .func (.func g) #[] lb] w fun e w' => e = .returned (.int .i64 (firstAt p xs 0)) ∧ Below w.heap.size w w' := by
  have hm := Kd.C_max hr
  have HR := Lib.hid hr
  have HC := Lib.hid hc
  clear hr hc
  go_enter Tryz.func80, Tryz.ntmps80
  go_wp2
  go_loopw [8] (fun i wr => ∃ k : Nat, k ≤ xs.length ∧ i = .int .i64 k ∧ RowKit.Hid ((xs.take k).any p = false) ∧ RowKit.Hid (Below w.heap.size w wr)) (fun i _ => xs.length - (intOf i).toNat)
  case atStart => exact ⟨0, Nat.zero_le _, rfl, Lib.hid (by simp), Lib.hid (Below.refl _ _)⟩
  case round =>
    obtain ⟨k, hk, rfl, HN, HB⟩ := hrel
    by_cases hlt : k < xs.length
    · have hlt2 : (k : Int) < (xs.length : Int) := by omega
      obtain ⟨ad, rfl, hx⟩ := Kd.at_string (Kd.C_below HR.out ⟨HB.out.os, HB.out.tape, HB.out.output, HB.out.size, HB.out.block⟩) k (by omega) (by omega)
      simp only [Int.toNat_natCast] at hx
      have hcall := HC.out xs[k] (List.getElem_mem hlt) wr HB.out
      have Y := Lib.hid (rdOf_get ByteArray.empty xs k hlt)
      rw [← Y.out] at hcall
      cases hq : p (rdOf ByteArray.empty xs k) with
      | true =>
        rw [hq] at hcall
        go_wp2_with (go_at_fn g; refine hcall.mono ?_; rintro e w' ⟨rfl, hb'⟩)
        go_ret
        refine ⟨?_, hb'⟩
        rw [firstAt_hit p xs k hlt HN.out (by rw [← Y.out]; exact hq)]
        rfl
      | false =>
        rw [hq] at hcall
        go_wp2_with (go_at_fn g; refine hcall.mono ?_; rintro e w' ⟨rfl, hb'⟩)
        go_roundw
        case measure => simp only [intOf]; omega
        case rel => exact ⟨k + 1, by omega, by go_num, Lib.hid (take_any_step p xs k hlt HN.out (by rw [← Y.out]; exact hq)), Lib.hid hb'⟩
    · have hlt2 : ¬ (k : Int) < (xs.length : Int) := by omega
      go_wp2
      go_ret
      refine ⟨?_, HB.out⟩
      have e : xs.take k = xs := List.take_of_length_le (by omega)
      have hn := HN.out
      rw [e] at hn
      rw [firstAt_miss p xs 0 hn]
      rfl

set_option maxHeartbeats 1000000 in
theorem contains_func_string (g : Nat) (lb : Array Value) (p : ByteArray → Bool) (xs : List ByteArray) (A0 : Option Addr) (c0 : Nat) (w : World) (eg : ∀ args w, (callFunc g args).run Tryz.prog w = .ok (.enter g args) w) (hr : Kd.C (Kd.string) w A0 xs.length xs)
    (hc : ∀ x ∈ xs, ∀ W, Below w.heap.size w W → Calls Tryz.prog g (#[.string x] ++ lb) W fun e w' => e = .returned (.bool (p x)) ∧ Below w.heap.size w w') :
    Calls Tryz.prog 50 #[.slice A0 xs.length c0, .func (.func g) #[] lb] w fun e w' => e = .returned (.bool (xs.any p)) ∧ Below w.heap.size w w' := by
  have HR := Lib.hid hr
  have HC := Lib.hid hc
  clear hr hc
  rw [show xs.any p = decide (0 ≤ firstAt p xs 0) from by rw [Bool.eq_iff_iff, decide_eq_true_iff, firstAt_any]]
  go_enter Tryz.func50, Tryz.ntmps50
  go_wp2_with (refine (index_func_string g lb p xs A0 c0 _ eg HR.out HC.out).mono ?_; rintro e w' ⟨rfl, hb'⟩)
  go_ret
  exact ⟨rfl, hb'⟩



end Go.Proofs.YtimkkjkgbbfgbaaGreatDoor.Q
end
section
-- WRITTEN BY A PROGRAM OF THIS SESSION (xprint.py, which runs the kit's printer with changes). Lean checks it.
namespace Go.Proofs.YtimkkjkgbbfgbaaGreatDoor.Q
open Go.RowKit Go.Proofs.YtimkkjkgbbfgbaaGreatDoorW.PrintWords Go.Proofs.YtimkkjkgbbfgbaaGreatDoorW.PrintLast Go.Proofs.YtimkkjkgbbfgbaaGreatDoorW.PrintMore
set_option linter.unusedVariables false
set_option linter.unusedSimpArgs false
attribute [local go_sem] max2_int min2_int max_two min_two max_three min_three max_four min_four   -- for this text's walks alone
/-! ### impl_JoinWords_1: function 51 -/
def impl_JoinWords_1.f (k : Nat) (a0 : ByteArray) : Option (Bool) := (impl_isWord.f k a0).bind fun t338 => (some (!t338))
theorem impl_JoinWords_1.mono : ∀ a0 k, LeO (impl_JoinWords_1.f k a0) (impl_JoinWords_1.f (k + 1) a0) := by
  intro a0 k
  unfold impl_JoinWords_1.f
  repeat' first
      | (with_reducible exact impl_isWord.mono _ _)
      | (with_reducible exact LeO.refl _)
      | (with_reducible exact LeO.none _)
      | (with_reducible refine LeO.ite ?_ ?_)
      | (with_reducible refine LeO.bind ?_ (fun _ => ?_))
      | exact impl_isWord.mono _ _
      | exact LeO.none _
      | refine LeO.ite ?_ ?_
      | refine LeO.bind ?_ (fun _ => ?_)
set_option maxHeartbeats 8000000 in
set_option maxRecDepth 100000 in
theorem impl_JoinWords_1.calls (k : Nat) (a0 : ByteArray) (r : Bool) (w : World) (hG_ : Glob w) (h : impl_JoinWords_1.f k a0 = some r) :
    Calls Tryz.prog 51 #[.string a0] w fun e w' => e = .returned (.bool r) ∧ Below w.heap.size w w' := by
  have HB := Aside0.mk (Below.refl w.heap.size w)
  have H : ((impl_isWord.f k a0).bind fun t338 => (some (!t338))) = some r := h
  clear h
  replace H := Option.bind_eq_some_iff.mp H
  obtain ⟨t338, A20, H⟩ := H
  replace H : (some (!t338)) = some r := H
  have A2 := Aside0.mk A20
  clear A20
  obtain rfl := Option.some.inj H
  go_enter Tryz.func51, Tryz.ntmps51
  go_wp2_with (first | ((with_reducible refine gate_callee (f := 52) rfl ?_); refine goesL_ (some 4) rfl rfl Tryz.func52 (by kernel_rfl) rfl #[.string a0] rfl (by (try simp only [List.map_toArray, List.map_cons, List.map_nil]); first | done | rfl | (simp only [List.length_drop, List.length_take]; rfl)) ?_; (with_reducible refine (impl_isWord.calls k a0 t338 _ ?side1 A2.out).mono ?_); (case side1 => refine Glob.step hG_ ?_; repeat (first | (with_reducible first | exact HB.out | apply below_alloc | apply pw_below_drewN | apply below_drew1) | exact HB.out)); rintro e w3 ⟨rfl, hb⟩; refine ⟨_, rfl, ?_⟩; have n0_ := Aside0.mk (below_step (by repeat (first | (with_reducible first | exact HB.out | apply below_alloc | apply pw_below_drewN | apply below_drew1) | exact HB.out)) hb); clear HB; have HB := n0_; clear n0_; (try clear hb); (try clear hb2); (try clear hk); (try clear hi)))
  go_ret
  exact ⟨by first | rfl | (simp [errW_none, errW_some] <;> rfl) | (simp [*, errW_none, errW_some] <;> rfl), by repeat (first | (with_reducible first | exact HB.out | apply below_alloc | apply pw_below_drewN | apply below_drew1) | exact HB.out)⟩

end Go.Proofs.YtimkkjkgbbfgbaaGreatDoor.Q
end
section
/- impl.JoinWords is walked. -/
namespace Go.Proofs.YtimkkjkgbbfgbaaGreatDoor.Q
open Go.RowKit Go.Proofs.YtimkkjkgbbfgbaaGreatDoorW.PrintWords Go.Proofs.YtimkkjkgbbfgbaaGreatDoorW.PrintLast Go.Proofs.YtimkkjkgbbfgbaaGreatDoorW.PrintMore
set_option linter.unusedVariables false

/-- A word that the program takes. -/
def word60 (a : ByteArray) : Bool := wordB a && decide ((a.size : Int) ≤ 60)
def blank : ByteArray := ⟨#[32]⟩
def joinM (l : List ByteArray) : ByteArray × Int := if textB (joinB l blank) = true then (if l.all word60 = true then (joinB l blank, 0) else (⟨#[]⟩, 1)) else (⟨#[]⟩, 1)
def impl_JoinWords.f (l : List ByteArray) : Option (ByteArray × Int) := if l.length ≤ 1048576 then (if l.all (fun x => decide (x.size ≤ 1048576)) = true then some (joinM l) else none) else none

theorem any_word (l : List ByteArray) : (l.any fun x => !word60 x) = !l.all word60 := by
  rw [← List.not_all_eq_any_not]

set_option maxHeartbeats 1000000 in
theorem impl_JoinWords.calls (A0 : Option Addr) (c0 : Nat) (l0 : List ByteArray) (r1 : ByteArray) (r2 : Int) (w : World) (hG_ : Glob w) (hr0 : Kd.C Kd.string w A0 l0.length l0) (hc0 : l0.length ≤ c0) (h : impl_JoinWords.f l0 = some (r1, r2)) :
    Calls Tryz.prog 14 #[.slice A0 l0.length c0] w fun e w' => e = .returned (.tuple #[.string r1, .int .i64 r2]) ∧ Below w.heap.size w w' := by
  unfold impl_JoinWords.f at h
  by_cases h1 : l0.length ≤ 1048576
  rotate_left
  · rw [if_neg h1] at h; cases h
  rw [if_pos h1] at h
  by_cases h2 : l0.all (fun x => decide (x.size ≤ 1048576)) = true
  rotate_left
  · rw [if_neg h2] at h; cases h
  rw [if_pos h2] at h
  replace h := Option.some.inj h
  unfold joinM at h
  have hfine : joinFine l0 := ⟨h1, fun x hx => of_decide_eq_true (List.all_eq_true.1 h2 x hx)⟩
  have HJ := Lib.hid (strings_Join.callsN A0 c0 l0 blank w hr0 hc0 hfine (by decide))
  have HR := Lib.hid hr0
  have HG := Lib.hid hG_
  clear hr0 hG_ h2 hfine
  have HT := Lib.hid (fun (W : World) (hW : Below w.heap.size w W) => impl_ValidText.calls 61 (joinB l0 blank) (textB (joinB l0 blank)) W (HG.out.step hW) (impl_ValidText.valM _ 61 (by omega)))
  have hcf := fun (W : World) (hW : Below w.heap.size w W) => contains_func_string 51 #[] (fun x => !word60 x) l0 A0 c0 W (enters_of Tryz.func51 (by kernel_rfl) rfl) (Kd.C_below HR.out hW)
    (fun x hx V hV => (impl_JoinWords_1.calls 61 x (!word60 x) V (HG.out.step (below_step hW hV)) (by unfold impl_JoinWords_1.f; rw [impl_isWord.valM x 61 (by omega)]; rfl)).mono fun e w' ⟨he, hb⟩ => ⟨he, below_step hV hb⟩)
  rw [any_word] at hcf
  unfold blank at HJ HT h
  generalize joinB l0 ⟨#[32]⟩ = t at HJ HT h
  cases ht : textB t with
  | false =>
    rw [ht] at HT h
    simp only [Bool.false_eq_true, if_false, Prod.mk.injEq] at h
    obtain ⟨rfl, rfl⟩ := h
    clear ht hcf
    go_enter Tryz.func14, Tryz.ntmps14
    go_wp2_with (first | (refine HJ.out.mono ?_; rintro e w1 ⟨rfl, hb⟩; have HB := Lib.hid hb; clear hb) | (refine (HT.out _ HB.out).mono ?_; rintro e w2 ⟨rfl, hb⟩; have HB2 := Lib.hid (below_step HB.out hb); clear hb))
    go_ret2
    exact ⟨rfl, HB2.out⟩
  | true =>
    rw [ht] at HT h
    simp only [if_true] at h
    clear ht
    cases ha : l0.all word60 with
    | false =>
      rw [ha] at hcf h
      have HC := Lib.hid hcf
      simp only [Bool.false_eq_true, if_false, Prod.mk.injEq] at h
      obtain ⟨rfl, rfl⟩ := h
      clear ha hcf
      go_enter Tryz.func14, Tryz.ntmps14
      go_wp2_with (first | (refine HJ.out.mono ?_; rintro e w1 ⟨rfl, hb⟩; have HB := Lib.hid hb; clear hb) | (refine (HT.out _ HB.out).mono ?_; rintro e w2 ⟨rfl, hb⟩; have HB2 := Lib.hid (below_step HB.out hb); clear hb) | (refine (HC.out _ HB2.out).mono ?_; rintro e w3 ⟨rfl, hb⟩; have HB3 := Lib.hid (below_step HB2.out hb); clear hb))
      go_ret2
      exact ⟨rfl, HB3.out⟩
    | true =>
      rw [ha] at hcf h
      have HC := Lib.hid hcf
      simp only [if_true, Prod.mk.injEq] at h
      obtain ⟨rfl, rfl⟩ := h
      clear ha hcf
      go_enter Tryz.func14, Tryz.ntmps14
      go_wp2_with (first | (refine HJ.out.mono ?_; rintro e w1 ⟨rfl, hb⟩; have HB := Lib.hid hb; clear hb) | (refine (HT.out _ HB.out).mono ?_; rintro e w2 ⟨rfl, hb⟩; have HB2 := Lib.hid (below_step HB.out hb); clear hb) | (refine (HC.out _ HB2.out).mono ?_; rintro e w3 ⟨rfl, hb⟩; have HB3 := Lib.hid (below_step HB2.out hb); clear hb))
      go_ret2
      exact ⟨rfl, HB3.out⟩
end Go.Proofs.YtimkkjkgbbfgbaaGreatDoor.Q
end
