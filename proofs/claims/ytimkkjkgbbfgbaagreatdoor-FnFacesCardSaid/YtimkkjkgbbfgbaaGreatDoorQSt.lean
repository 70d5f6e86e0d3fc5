-- Joined by joinmods.py out of: SortP QhandDelP QlibSortP
import Derived.Shelf.SlSortCmp.NoneTotal
import Derived.Ground.SlsfProg
import Derived.Test.YtimkkjkgbbfgbaaGreatDoorProg
import Derived.Test.YtimkkjkgbbfgbaaGreatDoorQVf
import Derived.Test.YtimkkjkgbbfgbaaGreatDoorQFc
import Derived.Shelf.Abstract
import Derived.Lib.SliceRun
import Derived.Test.YtimkkjkgbbfgbaaGreatDoorQCmp
section
/-
  DERIVED: THE SHELF's CONTRACTS AT THIS DUMP, IN PLAIN WORDS (tools/lay-plain.mjs out of 'TryzSortP.lean', which tools/lay-shelf.mjs wrote): THE SAME DECLARATIONS UNDER THE SAME NAMES: 'import', 'namespace', 'open', 'def', 'theorem' AND NOTHING ELSE: no command of the shelf's: FOR A HAND-IN. Each laying: the table of numbers ('.._ren') and one theorem, a field a fact of the dump's own or the kernel's comparison; each contract: ONE APPLICATION.
-/
namespace Go.Proofs
open Go.Shelf
def Tryz.lSortP_ren : Go.Shelf.Ren := ⟨fun | 6 => 42 | 15 => 78 | 14 => 77 | 28 => 109 | 29 => 110 | 20 => 101 | 21 => 102 | 22 => 103 | 23 => 104 | 24 => 105 | 25 => 106 | 26 => 107 | 27 => 108 | 46 => 132 | 47 => 133 | 48 => 134 | 49 => 135 | 50 => 136 | 57 => 153 | n => n, fun | 22 => 26 | 24 => 33 | 25 => 71 | 3 => 3 | 39 => 112 | 0 => 0 | 53 => 131 | 55 => 87 | 4 => 4 | 46 => 138 | 45 => 137 | 50 => 142 | 5 => 5 | 9 => 9 | 66 => 177 | 70 => 181 | 76 => 195 | 77 => 196 | n => n, fun | n => n⟩
theorem Tryz.lSortP : Go.Proofs.SlLaysF0.n6 Tryz.prog Tryz.lSortP_ren := {
  mixed := by kernel_rfl
  f6 := ⟨Tryz.f42.name, by decide, Tryz.func42.trans (congrArg some (by kernel_rfl))⟩
  f14 := ⟨Tryz.f77.name, by decide, Tryz.func77.trans (congrArg some (by kernel_rfl))⟩
  f15 := Tryz.func78.trans (congrArg some (by kernel_rfl))
  f20 := ⟨Tryz.f101.name, by decide, Tryz.func101.trans (congrArg some (by kernel_rfl))⟩
  f21 := ⟨Tryz.f102.name, by decide, Tryz.func102.trans (congrArg some (by kernel_rfl))⟩
  f22 := ⟨Tryz.f103.name, by decide, Tryz.func103.trans (congrArg some (by kernel_rfl))⟩
  f23 := ⟨Tryz.f104.name, by decide, Tryz.func104.trans (congrArg some (by kernel_rfl))⟩
  f24 := ⟨Tryz.f105.name, by decide, Tryz.func105.trans (congrArg some (by kernel_rfl))⟩
  f25 := ⟨Tryz.f106.name, by decide, Tryz.func106.trans (congrArg some (by kernel_rfl))⟩
  f26 := ⟨Tryz.f107.name, by decide, Tryz.func107.trans (congrArg some (by kernel_rfl))⟩
  f27 := ⟨Tryz.f108.name, by decide, Tryz.func108.trans (congrArg some (by kernel_rfl))⟩
  f28 := Tryz.func109.trans (congrArg some (by kernel_rfl))
  f29 := Tryz.func110.trans (congrArg some (by kernel_rfl))
  f46 := ⟨Tryz.f132.name, by decide, Tryz.func132.trans (congrArg some (by kernel_rfl))⟩
  f47 := Tryz.func133.trans (congrArg some (by kernel_rfl))
  f48 := Tryz.func134.trans (congrArg some (by kernel_rfl))
  f49 := ⟨Tryz.f135.name, by decide, Tryz.func135.trans (congrArg some (by kernel_rfl))⟩
  f50 := ⟨Tryz.f136.name, by decide, Tryz.func136.trans (congrArg some (by kernel_rfl))⟩
  f57 := ⟨Tryz.f153.name, by decide, Tryz.func153.trans (congrArg some (by kernel_rfl))⟩
  t0 := Tryz.underlying0
  a0 := Tryz.isAgg0
  z0 := Tryz.sizeOf0
  v0 := Tryz.zeroValue0
  t3 := Tryz.underlying3
  a3 := Tryz.isAgg3
  z3 := Tryz.sizeOf3
  v3 := Tryz.zeroValue3
  t4 := Tryz.underlying4
  a4 := Tryz.isAgg4
  z4 := Tryz.sizeOf4
  v4 := Tryz.zeroValue4
  t5 := Tryz.underlying5
  a5 := Tryz.isAgg5
  z5 := Tryz.sizeOf5
  v5 := Tryz.zeroValue5
  t9 := Tryz.underlying9
  a9 := Tryz.isAgg9
  z9 := Tryz.sizeOf9
  v9 := Tryz.zeroValue9
  t22 := Tryz.underlying26
  a22 := Tryz.isAgg26
  z22 := Tryz.sizeOf26
  v22 := Tryz.zeroValue26
  t25 := Tryz.underlying71
  a25 := Tryz.isAgg71
  z25 := Tryz.sizeOf71
  v25 := Tryz.zeroValue71
  t39 := Tryz.underlying112
  a39 := Tryz.isAgg112
  z39 := Tryz.sizeOf112
  v39 := Tryz.zeroValue112
  t45 := Tryz.underlying137
  a45 := Tryz.isAgg137
  z45 := Tryz.sizeOf137
  v45 := Tryz.zeroValue137
  t46 := Tryz.underlying138
  a46 := Tryz.isAgg138
  z46 := Tryz.sizeOf138
  v46 := Tryz.zeroValue138
  t50 := Tryz.underlying142
  a50 := Tryz.isAgg142
  z50 := Tryz.sizeOf142
  v50 := Tryz.zeroValue142
  t53 := Tryz.underlying131
  a53 := Tryz.isAgg131
  z53 := Tryz.sizeOf131
  v53 := Tryz.zeroValue131
  t55 := Tryz.underlying87
  a55 := Tryz.isAgg87
  z55 := Tryz.sizeOf87
  v55 := Tryz.zeroValue87
  t66 := Tryz.underlying177
  a66 := Tryz.isAgg177
  z66 := Tryz.sizeOf177
  v66 := Tryz.zeroValue177
  t70 := Tryz.underlying181
  a70 := Tryz.isAgg181
  z70 := Tryz.sizeOf181
  v70 := Tryz.zeroValue181
  t76 := Tryz.underlying195
  a76 := Tryz.isAgg195
  z76 := Tryz.sizeOf195
  v76 := Tryz.zeroValue195
  t77 := Tryz.underlying196
  a77 := Tryz.isAgg196
  z77 := Tryz.sizeOf196
  v77 := Tryz.zeroValue196 }
end Go.Proofs
end
section
/- slices.IndexFunc and slices.DeleteFunc over pairs, whatever function is handed on that answers a bool and leaves old memory as it was. -/
namespace Go.Proofs.YtimkkjkgbbfgbaaGreatDoor.Q
open Go.RowKit Go.Proofs.YtimkkjkgbbfgbaaGreatDoorW.PrintWords Go.Proofs.YtimkkjkgbbfgbaaGreatDoorW.PrintLast Go.Proofs.YtimkkjkgbbfgbaaGreatDoorW.PrintMore
open Go.Proofs.YtimkkjkgbbfgbaaGreatDoor.Pure
set_option linter.unusedVariables false
set_option linter.unusedSimpArgs false

/-- Where a search that has met no hit ends. -/
def firstAtP {α : Type} (p : α → Bool) : List α → Nat → Int
  | [], _ => -1
  | x :: xs, k => if p x then k else firstAtP p xs (k + 1)

theorem firstAtP_hit {α : Type} (p : α → Bool) (xs : List α) (k : Nat) (h : k < xs.length) (hn : (xs.take k).any p = false) (hp : p xs[k] = true) (j : Nat) : firstAtP p xs j = ((k + j : Nat) : Int) := by
  induction k generalizing xs j with
  | zero => cases xs with
    | nil => simp at h
    | cons x xs => simp at hp; simp [firstAtP, hp]
  | succ k ih => cases xs with
    | nil => simp at h
    | cons x xs =>
      simp at hn hp h
      simp only [firstAtP, hn.1, Bool.false_eq_true, if_false]
      rw [ih xs h (by simpa using hn.2) hp (j + 1)]
      congr 1; omega

theorem firstAtP_miss {α : Type} (p : α → Bool) (xs : List α) (j : Nat) (hn : xs.any p = false) : firstAtP p xs j = -1 := by
  induction xs generalizing j with
  | nil => rfl
  | cons x xs ih =>
    simp at hn
    simp only [firstAtP, hn.1, Bool.false_eq_true, if_false]
    exact ih (j + 1) (by simpa using hn.2)

theorem firstAtP_any {α : Type} (p : α → Bool) (xs : List α) (j : Nat) : (0 ≤ firstAtP p xs j) = (xs.any p = true) := by
  induction xs generalizing j with
  | nil => simp [firstAtP]
  | cons x xs ih =>
    by_cases h : p x = true
    · simp [firstAtP, h]; 
    · have h2 : p x = false := by simpa using h
      simp only [firstAtP, h2, List.any_cons, Bool.false_or, Bool.false_eq_true, if_false]
      exact ih (j + 1)

theorem take_any_stepP {α : Type} (p : α → Bool) (xs : List α) (k : Nat) (h : k < xs.length) (hn : (xs.take k).any p = false) (hp : p xs[k] = false) : (xs.take (k + 1)).any p = false := by
  rw [List.take_succ_eq_append_getElem h, List.any_append, hn]
  simp [hp]

set_option maxHeartbeats 1000000 in
theorem index_func_pair (g : Nat) (lb : Array Value) (p : S33 → Bool) (xs : List S33) (A0 : Option Addr) (c0 : Nat) (w : World) (eg : ∀ args w, (callFunc g args).run Tryz.prog w = .ok (.enter g args) w) (hr : Kd.C k33 w A0 xs.length xs)
    (hc : ∀ x ∈ xs, ∀ W, Below w.heap.size w W → Calls Tryz.prog g (#[.agg #[.int .u8 x.f0, .int .u8 x.f1, .int .i8 x.f2]] ++ lb) W fun e w' => e = .returned (.bool (p x)) ∧ Below w.heap.size w w') :
    Calls Tryz.prog 74 #[.slice A0 xs.length c0, .func (.func g) #[] lb] w fun e w' => e = .returned (.int .i64 (firstAtP p xs 0)) ∧ Below w.heap.size w w' := by
  have hm := Kd.C_max hr
  have HR := Lib.hid hr
  have HC := Lib.hid hc
  clear hr hc
  go_enter Tryz.func74, Tryz.ntmps74
  go_wp2
  go_loopw [8] (fun i wr => ∃ k : Nat, k ≤ xs.length ∧ i = .int .i64 k ∧ RowKit.Hid ((xs.take k).any p = false) ∧ RowKit.Hid (Below w.heap.size w wr)) (fun i _ => xs.length - (intOf i).toNat)
  case atStart => exact ⟨0, Nat.zero_le _, rfl, Lib.hid (by simp), Lib.hid (Below.refl _ _)⟩
  case round =>
    obtain ⟨k, hk, rfl, HN, HB⟩ := hrel
    by_cases hlt : k < xs.length
    · have hlt2 : (k : Int) < (xs.length : Int) := by omega
      obtain ⟨ad, rfl, hx, hx1, hx2⟩ := at_T33 (Kd.C_below HR.out ⟨HB.out.os, HB.out.tape, HB.out.output, HB.out.size, HB.out.block⟩) k (by omega) (by omega)
      simp only [Int.toNat_natCast] at hx hx1 hx2
      have hcall := HC.out xs[k] (List.getElem_mem hlt) wr HB.out
      have Y := Lib.hid (rd46_get xs k hlt)
      rw [← Y.out] at hcall
      cases hq : p (rd_T33 xs k) with
      | true =>
        rw [hq] at hcall
        go_wp2_with (go_at_fn g; refine hcall.mono ?_; rintro e w' ⟨rfl, hb'⟩)
        go_ret
        refine ⟨?_, hb'⟩
        rw [firstAtP_hit p xs k hlt HN.out (by rw [← Y.out]; exact hq)]
        rfl
      | false =>
        rw [hq] at hcall
        go_wp2_with (go_at_fn g; refine hcall.mono ?_; rintro e w' ⟨rfl, hb'⟩)
        go_roundw
        case measure => simp only [intOf]; omega
        case rel => exact ⟨k + 1, by omega, by go_num, Lib.hid (take_any_stepP p xs k hlt HN.out (by rw [← Y.out]; exact hq)), Lib.hid hb'⟩
    · have hlt2 : ¬ (k : Int) < (xs.length : Int) := by omega
      go_wp2
      go_ret
      refine ⟨?_, HB.out⟩
      have e : xs.take k = xs := List.take_of_length_le (by omega)
      have hn := HN.out
      rw [e] at hn
      rw [firstAtP_miss p xs 0 hn]
      rfl

theorem bcell {w w' : World} {p : Addr} {v : Value} (hb : Below w.heap.size w w') (h : w.cell? p = some v) : w'.cell? p = some v := (hb.cell (World.block_lt_of_cell? w _ h)).trans h
theorem below_size2 {w W : World} (B : Nat) (h : Below w.heap.size w W) (hB : B ≤ w.heap.size) : Below B w W := ⟨h.os, h.tape, h.output, h.size, fun i hi => h.block i (by omega)⟩
theorem R_own0 {α : Type} {d : Kd α} {e : Nat} {w : World} {base : Nat} {ok : Nat → Prop} {A : Option Addr} {n c : Nat} {xs : List α} (h : d.R e w base ok (.slice A n c) xs) (hn : 0 < xs.length) : ∃ g, A = some ⟨g, 0, none⟩ ∧ base ≤ g ∧ xs.length ≤ c := by
  obtain ⟨h0, inner, ho, hr⟩ := h
  rcases ho.2 with ⟨h1, h2⟩ | ⟨g, cap, cur, h1, h2, h3, h4, _⟩
  · omega
  · injection h1 with e1 e2 e3
    exact ⟨g, e1, h2, by omega⟩
theorem setCells_below {B : Nat} (zs : List Value) : ∀ (W0 W : World) (g o : Nat), Below B W0 W → B ≤ g → Below B W0 (W.setCells g o zs) := by
  induction zs with
  | nil => intro W0 W g o h _; exact h
  | cons z zs ih => intro W0 W g o h hg; exact ih W0 _ g (o + 1) (h.setCell hg _) hg
theorem take_filter_none {α : Type} (p : α → Bool) (l : List α) (h : l.any p = false) : l.filter (fun x => !p x) = l := by
  rw [List.filter_eq_self]
  intro x hx
  have := List.any_eq_false.1 h x hx
  simpa using this
theorem any_first {α : Type} (p : α → Bool) : ∀ (l : List α), l.any p = true → ∃ k, ∃ h : k < l.length, (l.take k).any p = false ∧ p l[k] = true := by
  intro l
  induction l with
  | nil => intro h; simp at h
  | cons x l ih =>
    intro h
    by_cases hx : p x = true
    · exact ⟨0, by simp, rfl, hx⟩
    · have hx2 : p x = false := by simpa using hx
      rw [List.any_cons, hx2, Bool.false_or] at h
      obtain ⟨k, hk, h1, h2⟩ := ih h
      refine ⟨k + 1, by simpa using hk, ?_, by simpa using h2⟩
      rw [List.take_succ_cons, List.any_cons, hx2, h1]
      rfl
/-- What lies in the row while it is gone through. -/
def rowAt (p : S33 → Bool) (xs : List S33) (j : Nat) : List S33 := (xs.take j).filter (fun x => !p x) ++ xs.drop ((xs.take j).filter (fun x => !p x)).length
theorem kept_le (p : S33 → Bool) (xs : List S33) (j : Nat) : ((xs.take j).filter (fun x => !p x)).length ≤ j := Nat.le_trans (List.length_filter_le _ _) (by rw [List.length_take]; omega)
theorem kept_le2 (p : S33 → Bool) (xs : List S33) (j : Nat) : ((xs.take j).filter (fun x => !p x)).length ≤ xs.length := Nat.le_trans (List.length_filter_le _ _) (by rw [List.length_take]; omega)
theorem rowAt_len (p : S33 → Bool) (xs : List S33) (j : Nat) : (rowAt p xs j).length = xs.length := by
  have := kept_le2 p xs j
  unfold rowAt
  rw [List.length_append, List.length_drop]
  omega
theorem rowAt_get (p : S33 → Bool) (xs : List S33) (j : Nat) (h : j < xs.length) : rd_T33 (rowAt p xs j) (j : Int) = xs[j] := by
  rw [rd46_get _ _ (by rw [rowAt_len]; exact h)]
  have := kept_le p xs j
  unfold rowAt
  rw [List.getElem_append_right this, List.getElem_drop]
  congr 1
  omega
theorem rowAt_skip (p : S33 → Bool) (xs : List S33) (j : Nat) (h : j < xs.length) (hp : p xs[j] = true) : rowAt p xs (j + 1) = rowAt p xs j ∧ ((xs.take (j + 1)).filter (fun x => !p x)).length = ((xs.take j).filter (fun x => !p x)).length := by
  have e : (xs.take (j + 1)).filter (fun x => !p x) = (xs.take j).filter (fun x => !p x) := by
    rw [List.take_succ_eq_append_getElem h, List.filter_append, List.filter_cons]
    simp [hp]
  unfold rowAt
  rw [e]
  exact ⟨rfl, rfl⟩
theorem rowAt_keep (p : S33 → Bool) (xs : List S33) (j : Nat) (h : j < xs.length) (hp : p xs[j] = false) : rowAt p xs (j + 1) = (rowAt p xs j).set ((xs.take j).filter (fun x => !p x)).length xs[j] ∧ ((xs.take (j + 1)).filter (fun x => !p x)).length = ((xs.take j).filter (fun x => !p x)).length + 1 := by
  have e : (xs.take (j + 1)).filter (fun x => !p x) = (xs.take j).filter (fun x => !p x) ++ [xs[j]] := by
    rw [List.take_succ_eq_append_getElem h, List.filter_append, List.filter_cons]
    simp [hp]
  have hl := kept_le p xs j
  unfold rowAt
  rw [e, List.length_append]
  refine ⟨?_, rfl⟩
  rw [List.set_append_right _ _ (Nat.le_refl _), Nat.sub_self, List.append_assoc, List.drop_eq_getElem_cons (show ((xs.take j).filter (fun x => !p x)).length < xs.length by omega), List.set_cons_zero]
  rfl


abbrev pv (x : S33) : List Value := [.int .u8 x.f0, .int .u8 x.f1, .int .i8 x.f2]
theorem R_at46 {W : World} {base : Nat} {ok : Nat → Prop} {g n cap : Nat} {xs : List S33} (h : Kd.R k33 33 W base ok (.slice (some ⟨g, 0, none⟩) n cap) xs) (i : Nat) (hi : i < n) :
    (W.cell? ⟨g, i * 3, none⟩ = some (.int .u8 (rd_T33 xs (i : Nat)).f0) ∧ W.cell? ⟨g, i * 3 + 1, none⟩ = some (.int .u8 (rd_T33 xs (i : Nat)).f1) ∧ W.cell? ⟨g, i * 3 + 2, none⟩ = some (.int .i8 (rd_T33 xs (i : Nat)).f2)) ∧
    W.frozen? ⟨g, i * 3, none⟩ = false ∧ W.frozen? ⟨g, i * 3 + 1, none⟩ = false ∧ W.frozen? ⟨g, i * 3 + 2, none⟩ = false := by
  obtain ⟨ce, hcl, hM, hcc, hfr⟩ := Kd.R_elem h z33 (i : Int) (by omega) (by omega)
  obtain rfl := k33_openM hM
  exact ⟨⟨hcc 0 _ rfl, hcc 1 _ rfl, hcc 2 _ rfl⟩, hfr 0, hfr 1, hfr 2⟩
theorem R_put3 {W : World} {base : Nat} {ok : Nat → Prop} {g n cap : Nat} {xs : List S33} (h : Kd.R k33 33 W base ok (.slice (some ⟨g, 0, none⟩) n cap) xs) (i : Nat) (hi : i < n) (x : S33) :
    Kd.R k33 33 (W.setCells g (i * 3) (pv x)) base ok (.slice (some ⟨g, 0, none⟩) n cap) (xs.set i x) := by
  obtain ⟨ce, hcl, hM, hcc, hfr⟩ := Kd.R_elem h z33 (i : Int) (by omega) (by omega)
  have h2 := (Kd.R_seg h (i : Int) (by omega) (by omega) (seg := pv x) (j := 0) hcl hcc (show 0 + 3 ≤ 3 by omega) (x' := x) (okp := fun k => ok k ∧ k ≠ g) (by
    have : (ce.take 0 ++ pv x ++ ce.drop (0 + (pv x).length)) = pv x := by
      rw [List.drop_eq_nil_of_le (by rw [hcl]; exact Nat.le_refl 3)]
      rfl
    rw [this]
    exact k33_mkM _ _ _ x) (fun _ hk => hk)).1
  exact h2
theorem zer_eq (n : Nat) : (Builtin.zeroCells #[.int .u8 0, .int .u8 0, .int .i8 0] n).toList = (List.replicate n (pv z33)).flatten := by
  simp only [Builtin.zeroCells, Array.toList_map, Array.toList_range]
  show List.map _ (List.range (n * 3)) = _
  induction n with
  | zero => rfl
  | succ n ih =>
    rw [Nat.succ_mul, List.range_add, List.map_append, ih, List.replicate_succ', List.flatten_append]
    congr 1
    show [_, _, _] = _
    have e0 : (n * 3 + 0) % 3 = 0 := by omega
    have e1 : (n * 3 + 1) % 3 = 1 := by omega
    have e2 : (n * 3 + 2) % 3 = 2 := by omega
    show [(#[Value.int .u8 0, .int .u8 0, .int .i8 0])[(n * 3 + 0) % 3]!, (#[Value.int .u8 0, .int .u8 0, .int .i8 0])[(n * 3 + 1) % 3]!, (#[Value.int .u8 0, .int .u8 0, .int .i8 0])[(n * 3 + 2) % 3]!] = _
    rw [e0, e1, e2]
    rfl
theorem setCells_app (g : Nat) (ys : List Value) : ∀ (zs : List Value) (o : Nat) (W : World), W.setCells g o (zs ++ ys) = (W.setCells g o zs).setCells g (o + zs.length) ys
  | [], o, W => by simp [World.setCells]
  | z :: zs, o, W => by
    show (W.setCell ⟨g, o, none⟩ z).setCells g (o + 1) (zs ++ ys) = ((W.setCell ⟨g, o, none⟩ z).setCells g (o + 1) zs).setCells g (o + (zs.length + 1)) ys
    rw [setCells_app g ys zs (o + 1), show o + (zs.length + 1) = o + 1 + zs.length by omega]
theorem R_clear3 {base : Nat} {ok : Nat → Prop} {g n cap i : Nat} : ∀ (k o : Nat) (W : World) (xs : List S33), i ≤ o → o + k ≤ n → Kd.R k33 33 W base ok (.slice (some ⟨g, 0, none⟩) n cap) xs →
    ∃ xs', Kd.R k33 33 (W.setCells g (o * 3) (List.replicate k (pv z33)).flatten) base ok (.slice (some ⟨g, 0, none⟩) n cap) xs' ∧ xs'.take i = xs.take i ∧ xs'.length = xs.length := by
  intro k
  induction k with
  | zero => intro o W xs _ _ h; exact ⟨xs, h, rfl, rfl⟩
  | succ k ih =>
    intro o W xs hio hn h
    have h2 := R_put3 h o (by omega) z33
    obtain ⟨xs', h3, h4, h5⟩ := ih (o + 1) _ _ (by omega) (by omega) h2
    refine ⟨xs', ?_, ?_, by rw [h5, List.length_set]⟩
    · rw [List.replicate_succ, List.flatten_cons, setCells_app]
      rw [Nat.succ_mul] at h3
      exact h3
    · rw [h4, List.take_set_of_le hio]
theorem run_clear3 (w : World) (ty : TypeId) (b o n c : Nat) (hn : 0 < n)
    (hc : ∀ j, j < n * 3 → (w.cell? ⟨b, o + j, none⟩).isSome = true) (hf : ∀ j, j < n * 3 → w.frozen? ⟨b, o + j, none⟩ = false) :
    (Builtin.clear_ #[26] ty #[.slice (some ⟨b, o, none⟩) n c]).run Tryz.prog w = .ok (.tuple #[]) (w.setCells b o (List.replicate n (pv z33)).flatten) := by
  have hzc := zer_eq n
  have hlen : (List.replicate n (pv z33)).flatten.length = n * 3 := by simp [List.length_flatten]
  have hst := run_storeCells_cells (P := Tryz.prog) b o (List.replicate n (pv z33)).flatten 0 w (by rw [hlen]; simpa using hc) (by rw [hlen]; simpa using hf) (by
    intro v hv
    obtain ⟨l, hl, hv⟩ := List.mem_flatten.1 hv
    rw [List.eq_of_mem_replicate hl] at hv
    simp [pv] at hv
    rcases hv with rfl | rfl | rfl <;> rfl)
  simp only [Nat.add_zero] at hst
  obtain ⟨Z, hZ⟩ : ∃ Z, Z = (List.replicate n (pv z33)).flatten := ⟨_, rfl⟩
  rw [← hZ] at hzc hst ⊢
  clear hZ hlen
  obtain ⟨m, rfl⟩ : ∃ m, n = m + 1 := ⟨n - 1, by omega⟩
  simp [Builtin.clear_, run_underlying Tryz.underlying26, Tryz.zeroValue33, Value.cells, hzc, hst]
set_option maxHeartbeats 2000000 in
theorem delete_func_pair (g : Nat) (lb : Array Value) (p : S33 → Bool) (xs : List S33) (A : Option Addr) (c base : Nat) (ok : Nat → Prop) (w : World) (eg : ∀ args w, (callFunc g args).run Tryz.prog w = .ok (.enter g args) w) (hR : Kd.R k33 33 w base ok (.slice A xs.length c) xs) (hbase : base ≤ w.heap.size) (hmax : xs.length ≤ 1048576)
    (hc : ∀ x ∈ xs, ∀ W, Below base w W → Calls Tryz.prog g (#[.agg #[.int .u8 x.f0, .int .u8 x.f1, .int .i8 x.f2]] ++ lb) W fun e w' => e = .returned (.bool (p x)) ∧ Below W.heap.size W w') :
    Calls Tryz.prog 38 #[.slice A xs.length c, .func (.func g) #[] lb] w fun e w' => e = .returned (.slice A (xs.filter (fun x => !p x)).length c) ∧ Kd.R k33 33 w' base ok (.slice A (xs.filter (fun x => !p x)).length c) (xs.filter (fun x => !p x)) ∧ Below base w w' := by
  have HI := Lib.hid (index_func_pair g lb p xs A c w eg (Kd.R_reads' hR).2.2 (fun x hx W hW => (hc x hx W (below_size2 _ hW hbase)).mono (fun e w' ⟨h1, h2⟩ => ⟨h1, below_step hW h2⟩)))
  have HR := Lib.hid hR
  have HC := Lib.hid hc
  have HB := Lib.hid hbase
  clear hR hc hbase
  by_cases hany : xs.any p = true
  rotate_left
  · have hn : xs.any p = false := by simpa using hany
    have e1 := firstAtP_miss p xs 0 hn
    have e2 := Lib.hid (take_filter_none p xs hn)
    rw [e1] at HI
    clear hany e1
    rw [e2.out]
    clear e2 hn
    go_enter Tryz.func38, Tryz.ntmps38
    go_wp2_with (go_at_call 74; with_reducible refine HI.out.mono ?_; rintro e w1 ⟨rfl, hb⟩)
    go_ret
    exact ⟨rfl, Kd.R_below HR.out hb, below_size2 _ hb HB.out⟩
  · obtain ⟨k0, hk0, hn, hp⟩ := any_first p xs hany
    have e1 := firstAtP_hit p xs k0 hk0 hn hp 0
    rw [e1] at HI
    obtain ⟨b, eA, hbb, hcap⟩ := R_own0 HR.out (by omega)
    subst eA
    have HK := Lib.hid (take_filter_none p (xs.take k0) hn)
    have HS := Lib.hid (rowAt_skip p xs k0 hk0 hp)
    have d0 : ((k0 : Int) == -1) = false := beq_eq_false_iff_ne.2 (by omega)
    have d1 : decide ((k0 : Int) = -1) = false := decide_eq_false (by omega)
    simp only [Nat.add_zero] at HI
    clear hany e1
    go_enter Tryz.func38, Tryz.ntmps38
    go_wp2_with (go_at_call 74; with_reducible refine HI.out.mono ?_; rintro e w1 ⟨rfl, hb⟩; have HB1 := Lib.hid hb; clear hb)
    have R1 := Lib.hid (show Kd.R k33 33 w1 base ok (.slice (some ⟨b, 0, none⟩) xs.length c) (rowAt p xs (k0 + 1)) from by
      rw [HS.out.1]
      have e : rowAt p xs k0 = xs := by
        unfold rowAt
        rw [HK.out, List.length_take, Nat.min_eq_left (by omega), List.take_append_drop]
      rw [e]
      exact Kd.R_below HR.out HB1.out)
    have HB2 := Lib.hid (below_size2 _ HB1.out HB.out)
    have HL := Lib.hid (show ((xs.take (k0 + 1)).filter (fun x => !p x)).length = k0 from by rw [HS.out.2, HK.out, List.length_take]; omega)
    have HNL := Lib.hid (show k0 < k0 + 1 from by omega)
    clear HR HI HS HK hn hp d0 d1
    go_loopw [5, 6] (fun i jv wr => ∃ j : Nat, k0 < j ∧ j ≤ xs.length ∧ jv = .int .i64 j ∧ i = .int .i64 (((xs.take j).filter (fun x => !p x)).length : Nat) ∧ RowKit.Hid (((xs.take j).filter (fun x => !p x)).length < j) ∧ RowKit.Hid (Kd.R k33 33 wr base ok (.slice (some ⟨b, 0, none⟩) xs.length c) (rowAt p xs j)) ∧ RowKit.Hid (Below base w wr)) (fun _ j _ => xs.length - (intOf j).toNat)
    case atStart => exact ⟨k0 + 1, by omega, by omega, by go_num, by rw [HL.out], Lib.hid (by rw [HL.out]; omega), R1, HB2⟩
    case round =>
      clear R1 HB1 HB2 HL
      obtain ⟨j, hkj, hj, rfl, rfl, HLT, R, HB2⟩ := hrel
      obtain ⟨il, hil⟩ : ∃ il, il = ((xs.take j).filter (fun x => !p x)).length := ⟨_, rfl⟩
      have hij : il < j := by rw [hil]; exact HLT.out
      rw [← hil]
      have HIL := Lib.hid hil
      clear hil HLT
      by_cases hlt : j < xs.length
      · have hlt2 : (j : Int) < (xs.length : Int) := by omega
        obtain ⟨⟨cj0, cj1, cj2⟩, _⟩ := R_at46 R.out j hlt
        rw [rowAt_get p xs j hlt] at cj0 cj1 cj2
        have hil3 : il < xs.length := by omega
        obtain ⟨⟨ci0, ci1, ci2⟩, fi0, fi1, fi2⟩ := R_at46 R.out il hil3
        have hcall := Lib.hid (HC.out xs[j] (List.getElem_mem hlt))
        have HKP := Lib.hid (rowAt_keep p xs j hlt)
        have HSK := Lib.hid (rowAt_skip p xs j hlt)
        obtain ⟨x, hx⟩ : ∃ x, x = xs[j] := ⟨_, rfl⟩
        rw [← hx] at cj0 cj1 cj2 hcall HKP HSK
        have HA := Lib.hid (below_alloc (Below.refl wr.heap.size wr) (.cells #[.int .u8 x.f0, .int .u8 x.f1, .int .i8 x.f2] 33))
        have HBA := Lib.hid (HB2.out.trans (below_size2 _ HA.out (Nat.le_trans HB.out HB2.out.size)))
        have RA := Lib.hid (Kd.R_below R.out HA.out)
        have HK := Lib.hid (heap_alloc_new wr (.cells #[.int .u8 x.f0, .int .u8 x.f1, .int .i8 x.f2] 33))
        have hcj : Calls Tryz.prog g (#[.agg #[.int .u8 x.f0, .int .u8 x.f1, .int .i8 x.f2]] ++ lb) (wr.alloc (.cells #[.int .u8 x.f0, .int .u8 x.f1, .int .i8 x.f2] 33)) _ := hcall.out _ HBA.out
        obtain ⟨old, hold⟩ : ∃ old, old = rd_T33 (rowAt p xs j) (il : Int) := ⟨_, rfl⟩
        rw [← hold] at ci0 ci1 ci2
        clear hx hold hcall
        cases hq : p x with
        | true =>
          rw [hq] at hcj
          have HSK2 := Lib.hid (HSK.out hq)
          clear HKP HSK hq
          go_wp2_with (go_at_fn g; refine hcj.mono ?_; rintro e w2 ⟨rfl, hb⟩; have HB3 := Lib.hid hb; clear hb)
          go_roundw
          case measure => simp only [intOf]; omega
          case rel => exact ⟨j + 1, by omega, by omega, by go_num, by rw [HSK2.out.2, ← HIL.out], Lib.hid (by rw [HSK2.out.2, ← HIL.out]; omega), Lib.hid (by rw [HSK2.out.1]; exact Kd.R_below RA.out HB3.out), Lib.hid (HBA.out.trans (below_size2 _ HB3.out (Nat.le_trans HB.out HBA.out.size)))⟩
        | false =>
          rw [hq] at hcj
          have HKP2 := Lib.hid (HKP.out hq)
          clear HKP HSK hq
          go_wp2_with (go_at_fn g; refine hcj.mono ?_; rintro e w2 ⟨rfl, hb⟩; have HB3 := Lib.hid hb; obtain ⟨⟨ei0, ei1, ei2⟩, gi0, gi1, gi2⟩ := R_at46 (Kd.R_below RA.out hb) il hil3; have eb0 : w2.cell? ⟨wr.heap.size, 0, none⟩ = some (.int .u8 x.f0) := bcell hb ((blk_cell HK.out 0).trans rfl); have eb1 : w2.cell? ⟨wr.heap.size, 1, none⟩ = some (.int .u8 x.f1) := bcell hb ((blk_cell HK.out 1).trans rfl); have eb2 : w2.cell? ⟨wr.heap.size, 2, none⟩ = some (.int .i8 x.f2) := bcell hb ((blk_cell HK.out 2).trans rfl); clear hb ci0 ci1 ci2 fi0 fi1 fi2)
          go_roundw
          case measure => simp only [intOf]; omega
          case rel =>
            have h9 := R_put3 (Kd.R_below RA.out HB3.out) il hil3 x
            exact ⟨j + 1, by omega, by omega, by go_num, by rw [HKP2.out.2, ← HIL.out]; go_num, Lib.hid (by rw [HKP2.out.2, ← HIL.out]; omega), Lib.hid (by rw [HKP2.out.1, ← HIL.out]; exact h9), Lib.hid (setCells_below (pv x) _ _ _ _ (HBA.out.trans (below_size2 _ HB3.out (Nat.le_trans HB.out HBA.out.size))) hbb)⟩
      · have hlt2 : ¬ (j : Int) < (xs.length : Int) := by omega
        have ej : xs.take j = xs := List.take_of_length_le (by omega)
        have hjl : j = xs.length := by omega
        have HIL2 := Lib.hid (show il = (xs.filter (fun x => !p x)).length from by rw [HIL.out, ej])
        have hcl : ∀ ty, (Builtin.clear_ #[26] ty #[.slice (some ⟨b, il * 3, none⟩) (xs.length - il) (c - il)]).run Tryz.prog wr = .ok (.tuple #[]) (wr.setCells b (il * 3) (List.replicate (xs.length - il) (pv z33)).flatten) := fun ty => by
          have hcells : ∀ k, k < (xs.length - il) * 3 → (wr.cell? ⟨b, il * 3 + k, none⟩).isSome = true ∧ wr.frozen? ⟨b, il * 3 + k, none⟩ = false := fun k hk => by
            obtain ⟨⟨x0, x1, x2⟩, f0, f1, f2⟩ := R_at46 R.out (il + k / 3) (by omega)
            have h3 := Nat.div_add_mod k 3
            rcases (show k % 3 = 0 ∨ k % 3 = 1 ∨ k % 3 = 2 by omega) with h | h | h
            · rw [show il * 3 + k = (il + k / 3) * 3 by omega]; exact ⟨by rw [x0]; rfl, f0⟩
            · rw [show il * 3 + k = (il + k / 3) * 3 + 1 by omega]; exact ⟨by rw [x1]; rfl, f1⟩
            · rw [show il * 3 + k = (il + k / 3) * 3 + 2 by omega]; exact ⟨by rw [x2]; rfl, f2⟩
          exact run_clear3 wr ty b (il * 3) (xs.length - il) (c - il) (by omega) (fun k hk => (hcells k hk).1) (fun k hk => (hcells k hk).2)
        go_wp2
        go_ret
        obtain ⟨ys, h1, h2, h3⟩ := R_clear3 (i := il) (xs.length - il) il wr (rowAt p xs j) (Nat.le_refl _) (by omega) R.out
        have h4 := Kd.R_take h1 (m := il) (by rw [h3, rowAt_len]; omega)
        have h5 : (rowAt p xs j).take il = xs.filter (fun x => !p x) := by
          unfold rowAt
          rw [ej, ← HIL2.out, HIL2.out, List.take_left' rfl]
        rw [h2, h5] at h4
        rw [← HIL2.out]
        exact ⟨rfl, h4, setCells_below _ _ _ _ _ HB2.out hbb⟩
end Go.Proofs.YtimkkjkgbbfgbaaGreatDoor.Q
end
section
/- slices.SortFunc over a row of pairs of one's own, by comparePairs, out of the shelf: the same pairs, in their order. -/
namespace Go.Proofs.YtimkkjkgbbfgbaaGreatDoor.Q
open Go.RowKit Go.Proofs.YtimkkjkgbbfgbaaGreatDoorW.PrintWords Go.Proofs.YtimkkjkgbbfgbaaGreatDoorW.PrintLast Go.Proofs.YtimkkjkgbbfgbaaGreatDoorW.PrintMore
open Go.Sort
set_option linter.unusedVariables false
set_option linter.unusedSimpArgs false

instance inh46 : Inhabited S33 := ⟨z33⟩
def cfP (p q : S33) : Int := (impl_comparePairs.f 3 p.f0 p.f1 p.f2 q.f0 q.f1 q.f2).getD 0
theorem cfP_spec (p q : S33) : impl_comparePairs.f 3 p.f0 p.f1 p.f2 q.f0 q.f1 q.f2 = some (cfP p q) ∧ ltOf cfP p q = aheadP p q := by
  obtain ⟨r, h1, h2⟩ := comparePairs_val p q
  have e : cfP p q = r := by unfold cfP; rw [h1]; rfl
  refine ⟨by rw [e]; exact h1, ?_⟩
  unfold ltOf
  rw [e]
  by_cases h : 0 ≤ r
  · have : aheadP p q = false := by rw [decide_eq_true h] at h2; simpa using h2
    rw [this]
    exact decide_eq_false (by omega)
  · have : aheadP p q = true := by rw [decide_eq_false h] at h2; simpa using h2
    rw [this]
    exact decide_eq_true (by omega)
theorem swoP : SWO (ltOf cfP) where
  irrefl x := by rw [(cfP_spec x x).2]; unfold aheadP; simp
  trans x y z h1 h2 := by
    rw [(cfP_spec _ _).2] at *
    unfold aheadP at *
    simp only [Bool.or_eq_true, Bool.and_eq_true, decide_eq_true_eq] at *
    omega
  ntrans x y z h1 h2 := by
    rw [(cfP_spec _ _).2] at *
    unfold aheadP at *
    simp only [Bool.or_eq_false_iff, Bool.and_eq_false_iff, decide_eq_false_iff_not] at *
    omega
theorem pv_len (x : S33) : (pv x).length = 3 := rfl
theorem pv_one (x : S33) : ∀ v ∈ pv x, v.oneCell' = true := by
  intro v hv
  simp [pv] at hv
  rcases hv with rfl | rfl | rfl <;> rfl
theorem flat_get (l : List S33) (j i : Nat) (hj : j < l.length) (hi : i < 3) : (flatK pv 3 l.toArray)[j * 3 + i]! = (pv (rd_T33 l (j : Nat)))[i]! := by
  rw [get_flatK pv 3 l.toArray (j * 3 + i) (by simp; omega), show (j * 3 + i) / 3 = j by omega, show (j * 3 + i) % 3 = i by omega]
  congr 2
  rw [getElem!_pos l.toArray j (by simpa using hj), rd46_get _ _ hj]
  simp
theorem holds_of_R {W : World} {base : Nat} {ok : Nat → Prop} {g cap : Nat} {l : List S33} (h : Kd.R k33 33 W base ok (.slice (some ⟨g, 0, none⟩) l.length cap) l) : HoldsK pv 3 W g 0 l.toArray := by
  intro t ht
  have ht' : t < l.length * 3 := by simpa using ht
  obtain ⟨⟨c0, c1, c2⟩, f0, f1, f2⟩ := R_at46 h (t / 3) (by omega)
  have hg := flat_get l (t / 3) (t % 3) (by omega) (by omega)
  rw [show t / 3 * 3 + t % 3 = t by omega] at hg
  rw [Nat.zero_add]
  show W.cell? ⟨g, t, none⟩ = some ((flatK pv 3 l.toArray)[t]!) ∧ _
  rw [hg]
  rcases (show t % 3 = 0 ∨ t % 3 = 1 ∨ t % 3 = 2 by omega) with e | e | e
  · rw [e, show t = t / 3 * 3 by omega]; rw [show t / 3 * 3 / 3 = t / 3 by omega]; exact ⟨c0, f0⟩
  · have e2 : t = t / 3 * 3 + 1 := by omega
    rw [e]; rw [e2]; rw [show (t / 3 * 3 + 1) / 3 = t / 3 by omega]; exact ⟨c1, f1⟩
  · have e2 : t = t / 3 * 3 + 2 := by omega
    rw [e]; rw [e2]; rw [show (t / 3 * 3 + 2) / 3 = t / 3 by omega]; exact ⟨c2, f2⟩
theorem flat_reps (W : World) (base : Nat) (ok : Nat → Prop) (l : List S33) : Reps (Kd.M k33 W base ok) 3 l (flatK pv 3 l.toArray).toList := by
  refine ⟨by simp, fun j p hj => ?_⟩
  obtain ⟨hjl, he⟩ := List.getElem?_eq_some_iff.1 hj
  have : ((flatK pv 3 l.toArray).toList.drop (j * 3)).take 3 = pv p := by
    apply List.ext_getElem?
    intro i
    by_cases hi : i < 3
    · have hlt : j * 3 + i < (flatK pv 3 l.toArray).size := by simp; omega
      have hg := flat_get l j i hjl hi
      rw [getElem!_pos (flatK pv 3 l.toArray) (j * 3 + i) hlt] at hg
      rw [List.getElem?_take_of_lt hi, List.getElem?_drop, Array.getElem?_toList, Array.getElem?_eq_getElem hlt, hg, rd46_get _ _ hjl, he]
      rw [getElem!_pos (pv p) i (by rw [pv_len]; exact hi), List.getElem?_eq_getElem (by rw [pv_len]; exact hi)]
    · rw [List.getElem?_take_eq_none (by omega), List.getElem?_eq_none (by rw [pv_len]; omega)]
  rw [this]
  exact k33_mkM _ _ _ p
theorem heap_sortedP {w : World} {g n : Nat} {os : Array Obj} {cur : Array Value} {e : TypeId} {fr : Nat × Nat} (F : Array Value) (hb : w.heap[g]? = some (.cells cur e fr)) :
    (grow (putRow id (Sort.ahead w n) g 0 F) os).heap[g]? = some (.cells (putCells id 0 F cur) e fr) := by
  have hg : g < w.heap.size := (Array.getElem?_eq_some_iff.1 hb).1
  rw [heap_grow_old _ _ (by simpa using hg)]
  simp [putRow, mapBlock, Sort.ahead, Array.getElem?_modify, hb, onCells]
theorem grownBy_sortedP {w : World} {g n : Nat} {os : Array Obj} (F : Array Value) : w.grownBy (grow (putRow id (Sort.ahead w n) g 0 F) os) (some g) := by
  refine ⟨rfl, rfl, rfl, by simp, fun k hk hne => ?_⟩
  rw [heap_grow_old _ _ (by simpa using hk)]
  have : g ≠ k := fun e => hne (by rw [e])
  simp [putRow, mapBlock, Sort.ahead, Array.getElem?_modify, this]
theorem take_putP (cur F : Array Value) (h : F.size ≤ cur.size) : (putCells id 0 F cur).toList.take F.size = F.toList := by
  apply List.ext_getElem?
  intro j
  by_cases hj : j < F.size
  · rw [List.getElem?_take_of_lt hj, Array.getElem?_toList, Array.getElem?_toList]
    simp [putCells, hj, show j < cur.size by omega]
  · rw [List.getElem?_take_eq_none (by omega), List.getElem?_eq_none (by simp; omega)]
theorem R_sortedP {w : World} {base g cap n : Nat} {ok : Nat → Prop} {os : Array Obj} {l l' : List S33} (h : Kd.R k33 33 w base ok (.slice (some ⟨g, 0, none⟩) l.length cap) l) (hl : l'.length = l.length) :
    Kd.R k33 33 (sortWorldK pv 3 w g 0 n l'.toArray os) base ok (.slice (some ⟨g, 0, none⟩) l.length cap) l' := by
  obtain ⟨h0, inner, ho, hr⟩ := h
  refine ⟨h0, (flatK pv 3 l'.toArray).toList, ?_, flat_reps _ _ _ l'⟩
  rcases ho.2 with ⟨h1, _⟩ | ⟨g', cap', cur, h1, hbase, hb, hn, hcap, hsz, htk⟩
  · cases h1
  · injection h1 with e1 e2 e3
    injection e1 with e1
    injection e1 with e1
    subst e1; subst e3
    have hs : (flatK pv 3 l'.toArray).size = l'.length * 3 := by simp
    refine ⟨by simp [hl]; rfl, .inr ⟨g, cap, putCells id 0 (flatK pv 3 l'.toArray) cur, by rw [hl], hbase, heap_sortedP _ hb, by omega, hcap, by simp [putCells]; exact hsz, ?_⟩⟩
    have hk : k33.sz = 3 := rfl
    have hc3 : cur.size = cap * 3 := hsz
    have := take_putP cur (flatK pv 3 l'.toArray) (by rw [hs, hc3, hl]; exact Nat.mul_le_mul_right 3 hn)
    rw [hs] at this
    exact this
set_option maxHeartbeats 1000000 in
theorem sortPC (g c : Nat) (l : List S33) (base : Nat) (ok : Nat → Prop) (w : World) (hR : Kd.R k33 33 w base ok (.slice (some ⟨g, 0, none⟩) l.length c) l) (hl : l.length ≤ 1048576) :
    Calls Tryz.prog 42 #[.slice (some ⟨g, 0, none⟩) l.length c, .func (.func 41) #[] #[]] w fun e w' => e = .returned (.tuple #[]) ∧ ∃ l' : List S33, l'.Perm l ∧ l'.Pairwise (fun x y => aheadP y x = false) ∧ Kd.R k33 33 w' base ok (.slice (some ⟨g, 0, none⟩) l.length c) l' ∧ w.grownBy w' (some g) := by
  have eg : ∀ args w, (callFunc 41 args).run Tryz.prog w = .ok (.enter 41 args) w := enters_of Tryz.func41 (by kernel_rfl) rfl
  have hblk : g < w.heap.size := by
    obtain ⟨h0, inner, ho, hr⟩ := hR
    rcases ho.2 with ⟨h1, _⟩ | ⟨g', cap', cur, h1, hbase, hb, _⟩
    · cases h1
    · injection h1 with e1 e2 e3
      injection e1 with e1
      injection e1 with e1
      subst e1
      exact (Array.getElem?_eq_some_iff.1 hb).1
  have hcmp : CmpLays Tryz.prog 41 #[] pv 3 cfP g 0 l.toArray.size w := fun m os dk hdk x y => comparePairsL 3 x.f0 x.f1 x.f2 y.f0 y.f1 y.f2 (cfP x y) _ (cfP_spec x y).1
  have hcon := AnyQ.slices_SortFunc Tryz.lSortP 3 (fun w => Tryz.isAgg33 w) (fun w => Tryz.sizeOf33 w) pv pv_len pv_one cfP swoP 41 #[] g 0 c l.toArray w eg hcmp (holds_of_R hR) hblk (by simp; omega)
  have hsz : l.toArray.size = l.length := by simp
  rw [hsz] at hcon
  refine Calls.mono (show Calls Tryz.prog 42 #[.slice (some ⟨g, 0, none⟩) l.length c, .func (.func 41) #[] #[]] w _ from hcon) ?_
  rintro e w' ⟨rfl, d', n, os, ⟨hs, _, hp⟩, hso, rfl⟩
  have hs2 : d'.size = l.length := by rw [hs, hsz]
  refine ⟨rfl, d'.toList, ?_, ?_, ?_, ?_⟩
  · have e1 : d'.extract 0 l.length = d' := by rw [← hs2]; exact Array.extract_size
    rw [e1] at hp
    have e2 : (l.toArray.extract 0 l.length).toList = l := by simp
    rw [e2] at hp
    exact hp
  · rw [List.pairwise_iff_getElem]
    intro i j hi hj hij
    have hi' : i < d'.size := by simpa using hi
    have hj' : j < d'.size := by simpa using hj
    have := hso i j (Nat.zero_le _) hij (by omega)
    rw [getElem!_pos d' j hj', getElem!_pos d' i hi', (cfP_spec _ _).2] at this
    exact this
  · have := R_sortedP (n := n) (os := os) (l' := d'.toList) hR (by simpa using hs2)
    simpa using this
  · exact grownBy_sortedP _
end Go.Proofs.YtimkkjkgbbfgbaaGreatDoor.Q
end
