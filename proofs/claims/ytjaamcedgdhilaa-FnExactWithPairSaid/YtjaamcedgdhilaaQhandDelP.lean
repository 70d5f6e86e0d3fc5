/- slices.IndexFunc and slices.DeleteFunc over pairs, whatever function is handed on that answers a bool and leaves old memory as it was. -/
import Derived.Test.YtjaamcedgdhilaaQhandValidFace
import Derived.Test.YtjaamcedgdhilaaQhandClone
import Derived.Shelf.Abstract
import Derived.Lib.SliceRun
namespace Go.Proofs.Ytjaamcedgdhilaa.Q
open Go.RowKit Go.Proofs.YtjaamcedgdhilaaW.PrintWords Go.Proofs.YtjaamcedgdhilaaW.PrintLast Go.Proofs.YtjaamcedgdhilaaW.PrintMore
open Go.Proofs.Ytjaamcedgdhilaa.Pure
set_option linter.unusedVariables false
set_option linter.unusedSimpArgs false

/-- Where a search that has met no hit ends. -/
def firstAt {α : Type} (p : α → Bool) : List α → Nat → Int
  | [], _ => -1
  | x :: xs, k => if p x then k else firstAt p xs (k + 1)

theorem firstAt_hit {α : Type} (p : α → Bool) (xs : List α) (k : Nat) (h : k < xs.length) (hn : (xs.take k).any p = false) (hp : p xs[k] = true) (j : Nat) : firstAt p xs j = ((k + j : Nat) : Int) := by
  induction k generalizing xs j with
  | zero => cases xs with
    | nil => simp at h
    | cons x xs => simp at hp; simp [firstAt, hp]
  | succ k ih => cases xs with
    | nil => simp at h
    | cons x xs =>
      simp at hn hp h
      simp only [firstAt, hn.1, Bool.false_eq_true, if_false]
      rw [ih xs h (by simpa using hn.2) hp (j + 1)]
      congr 1; omega

theorem firstAt_miss {α : Type} (p : α → Bool) (xs : List α) (j : Nat) (hn : xs.any p = false) : firstAt p xs j = -1 := by
  induction xs generalizing j with
  | nil => rfl
  | cons x xs ih =>
    simp at hn
    simp only [firstAt, hn.1, Bool.false_eq_true, if_false]
    exact ih (j + 1) (by simpa using hn.2)

theorem firstAt_any {α : Type} (p : α → Bool) (xs : List α) (j : Nat) : (0 ≤ firstAt p xs j) = (xs.any p = true) := by
  induction xs generalizing j with
  | nil => simp [firstAt]
  | cons x xs ih =>
    by_cases h : p x = true
    · simp [firstAt, h]; 
    · have h2 : p x = false := by simpa using h
      simp only [firstAt, h2, List.any_cons, Bool.false_or, Bool.false_eq_true, if_false]
      exact ih (j + 1)

theorem take_any_step {α : Type} (p : α → Bool) (xs : List α) (k : Nat) (h : k < xs.length) (hn : (xs.take k).any p = false) (hp : p xs[k] = false) : (xs.take (k + 1)).any p = false := by
  rw [List.take_succ_eq_append_getElem h, List.any_append, hn]
  simp [hp]

set_option maxHeartbeats 1000000 in
theorem index_func_pair (g : Nat) (lb : Array Value) (p : S46 → Bool) (xs : List S46) (A0 : Option Addr) (c0 : Nat) (w : World) (eg : ∀ args w, (callFunc g args).run Try.prog w = .ok (.enter g args) w) (hr : Kd.C k46 w A0 xs.length xs)
    (hc : ∀ x ∈ xs, ∀ W, Below w.heap.size w W → Calls Try.prog g (#[.agg #[.int .u8 x.f0, .int .u8 x.f1, .int .i8 x.f2]] ++ lb) W fun e w' => e = .returned (.bool (p x)) ∧ Below w.heap.size w w') :
    Calls Try.prog 48 #[.slice A0 xs.length c0, .func (.func g) #[] lb] w fun e w' => e = .returned (.int .i64 (firstAt p xs 0)) ∧ Below w.heap.size w w' := by
  have hm := Kd.C_max hr
  have HR := Lib.hid hr
  have HC := Lib.hid hc
  clear hr hc
  go_enter Try.func48, Try.ntmps48
  go_wp2
  go_loopw [8] (fun i wr => ∃ k : Nat, k ≤ xs.length ∧ i = .int .i64 k ∧ RowKit.Hid ((xs.take k).any p = false) ∧ RowKit.Hid (Below w.heap.size w wr)) (fun i _ => xs.length - (intOf i).toNat)
  case atStart => exact ⟨0, Nat.zero_le _, rfl, Lib.hid (by simp), Lib.hid (Below.refl _ _)⟩
  case round =>
    obtain ⟨k, hk, rfl, HN, HB⟩ := hrel
    by_cases hlt : k < xs.length
    · have hlt2 : (k : Int) < (xs.length : Int) := by omega
      obtain ⟨ad, rfl, hx, hx1, hx2⟩ := at_T46 (Kd.C_below HR.out ⟨HB.out.os, HB.out.tape, HB.out.output, HB.out.size, HB.out.block⟩) k (by omega) (by omega)
      simp only [Int.toNat_natCast] at hx hx1 hx2
      have hcall := HC.out xs[k] (List.getElem_mem hlt) wr HB.out
      have Y := Lib.hid (rd46_get xs k hlt)
      rw [← Y.out] at hcall
      cases hq : p (rd_T46 xs k) with
      | true =>
        rw [hq] at hcall
        go_wp2_with (go_at_fn g; refine hcall.mono ?_; rintro e w' ⟨rfl, hb'⟩)
        go_ret
        refine ⟨?_, hb'⟩
        rw [firstAt_hit p xs k hlt HN.out (by rw [← Y.out]; exact hq)]
        rfl
      | false =>
        rw [hq] at hcall
        go_wp2_with (go_at_fn g; refine hcall.mono ?_; rintro e w' ⟨rfl, hb'⟩)
        go_roundw
        case measure => simp only [intOf]; omega
        case rel => exact ⟨k + 1, by omega, by go_num, Lib.hid (take_any_step p xs k hlt HN.out (by rw [← Y.out]; exact hq)), Lib.hid hb'⟩
    · have hlt2 : ¬ (k : Int) < (xs.length : Int) := by omega
      go_wp2
      go_ret
      refine ⟨?_, HB.out⟩
      have e : xs.take k = xs := List.take_of_length_le (by omega)
      have hn := HN.out
      rw [e] at hn
      rw [firstAt_miss p xs 0 hn]
      rfl

theorem bcell {w w' : World} {p : Addr} {v : Value} (hb : Below w.heap.size w w') (h : w.cell? p = some v) : w'.cell? p = some v := (hb.cell (World.block_lt_of_cell? w _ h)).trans h
theorem below_size2 {w W : World} (B : Nat) (h : Below w.heap.size w W) (hB : B ≤ w.heap.size) : Below B w W := ⟨h.os, h.tape, h.output, h.size, fun i hi => h.block i (by omega)⟩
theorem R_own0 {α : Type} {d : Kd α} {e : Nat} {w : World} {base : Nat} {ok : Nat → Prop} {A : Option Addr} {n c : Nat} {xs : List α} (h : d.R e w base ok (.slice A n c) xs) (hn : 0 < xs.length) : ∃ g, A = some ⟨g, 0, none⟩ ∧ base ≤ g ∧ xs.length ≤ c := by
  obtain ⟨h0, inner, ho, hr⟩ := h
  rcases ho.2 with ⟨h1, h2⟩ | ⟨g, cap, cur, h1, h2, h3, h4, _⟩
  · omega
  · injection h1 with e1 e2 e3
    exact ⟨g, e1, h2, by omega⟩
theorem setCells_below {B : Nat} (zs : List Value) : ∀ (W0 W : World) (g o : Nat), Below B W0 W → B ≤ g → Below B W0 (W.setCells g o zs) := by
  induction zs with
  | nil => intro W0 W g o h _; exact h
  | cons z zs ih => intro W0 W g o h hg; exact ih W0 _ g (o + 1) (h.setCell hg _) hg
theorem take_filter_none {α : Type} (p : α → Bool) (l : List α) (h : l.any p = false) : l.filter (fun x => !p x) = l := by
  rw [List.filter_eq_self]
  intro x hx
  have := List.any_eq_false.1 h x hx
  simpa using this
theorem any_first {α : Type} (p : α → Bool) : ∀ (l : List α), l.any p = true → ∃ k, ∃ h : k < l.length, (l.take k).any p = false ∧ p l[k] = true := by
  intro l
  induction l with
  | nil => intro h; simp at h
  | cons x l ih =>
    intro h
    by_cases hx : p x = true
    · exact ⟨0, by simp, rfl, hx⟩
    · have hx2 : p x = false := by simpa using hx
      rw [List.any_cons, hx2, Bool.false_or] at h
      obtain ⟨k, hk, h1, h2⟩ := ih h
      refine ⟨k + 1, by simpa using hk, ?_, by simpa using h2⟩
      rw [List.take_succ_cons, List.any_cons, hx2, h1]
      rfl
/-- What lies in the row while it is gone through. -/
def rowAt (p : S46 → Bool) (xs : List S46) (j : Nat) : List S46 := (xs.take j).filter (fun x => !p x) ++ xs.drop ((xs.take j).filter (fun x => !p x)).length
theorem kept_le (p : S46 → Bool) (xs : List S46) (j : Nat) : ((xs.take j).filter (fun x => !p x)).length ≤ j := Nat.le_trans (List.length_filter_le _ _) (by rw [List.length_take]; omega)
theorem kept_le2 (p : S46 → Bool) (xs : List S46) (j : Nat) : ((xs.take j).filter (fun x => !p x)).length ≤ xs.length := Nat.le_trans (List.length_filter_le _ _) (by rw [List.length_take]; omega)
theorem rowAt_len (p : S46 → Bool) (xs : List S46) (j : Nat) : (rowAt p xs j).length = xs.length := by
  have := kept_le2 p xs j
  unfold rowAt
  rw [List.length_append, List.length_drop]
  omega
theorem rowAt_get (p : S46 → Bool) (xs : List S46) (j : Nat) (h : j < xs.length) : rd_T46 (rowAt p xs j) (j : Int) = xs[j] := by
  rw [rd46_get _ _ (by rw [rowAt_len]; exact h)]
  have := kept_le p xs j
  unfold rowAt
  rw [List.getElem_append_right this, List.getElem_drop]
  congr 1
  omega
theorem rowAt_skip (p : S46 → Bool) (xs : List S46) (j : Nat) (h : j < xs.length) (hp : p xs[j] = true) : rowAt p xs (j + 1) = rowAt p xs j ∧ ((xs.take (j + 1)).filter (fun x => !p x)).length = ((xs.take j).filter (fun x => !p x)).length := by
  have e : (xs.take (j + 1)).filter (fun x => !p x) = (xs.take j).filter (fun x => !p x) := by
    rw [List.take_succ_eq_append_getElem h, List.filter_append, List.filter_cons]
    simp [hp]
  unfold rowAt
  rw [e]
  exact ⟨rfl, rfl⟩
theorem rowAt_keep (p : S46 → Bool) (xs : List S46) (j : Nat) (h : j < xs.length) (hp : p xs[j] = false) : rowAt p xs (j + 1) = (rowAt p xs j).set ((xs.take j).filter (fun x => !p x)).length xs[j] ∧ ((xs.take (j + 1)).filter (fun x => !p x)).length = ((xs.take j).filter (fun x => !p x)).length + 1 := by
  have e : (xs.take (j + 1)).filter (fun x => !p x) = (xs.take j).filter (fun x => !p x) ++ [xs[j]] := by
    rw [List.take_succ_eq_append_getElem h, List.filter_append, List.filter_cons]
    simp [hp]
  have hl := kept_le p xs j
  unfold rowAt
  rw [e, List.length_append]
  refine ⟨?_, rfl⟩
  rw [List.set_append_right _ _ (Nat.le_refl _), Nat.sub_self, List.append_assoc, List.drop_eq_getElem_cons (show ((xs.take j).filter (fun x => !p x)).length < xs.length by omega), List.set_cons_zero]
  rfl


abbrev pv (x : S46) : List Value := [.int .u8 x.f0, .int .u8 x.f1, .int .i8 x.f2]
theorem R_at46 {W : World} {base : Nat} {ok : Nat → Prop} {g n cap : Nat} {xs : List S46} (h : Kd.R k46 46 W base ok (.slice (some ⟨g, 0, none⟩) n cap) xs) (i : Nat) (hi : i < n) :
    (W.cell? ⟨g, i * 3, none⟩ = some (.int .u8 (rd_T46 xs (i : Nat)).f0) ∧ W.cell? ⟨g, i * 3 + 1, none⟩ = some (.int .u8 (rd_T46 xs (i : Nat)).f1) ∧ W.cell? ⟨g, i * 3 + 2, none⟩ = some (.int .i8 (rd_T46 xs (i : Nat)).f2)) ∧
    W.frozen? ⟨g, i * 3, none⟩ = false ∧ W.frozen? ⟨g, i * 3 + 1, none⟩ = false ∧ W.frozen? ⟨g, i * 3 + 2, none⟩ = false := by
  obtain ⟨ce, hcl, hM, hcc, hfr⟩ := Kd.R_elem h z46 (i : Int) (by omega) (by omega)
  obtain rfl := k46_openM hM
  exact ⟨⟨hcc 0 _ rfl, hcc 1 _ rfl, hcc 2 _ rfl⟩, hfr 0, hfr 1, hfr 2⟩
theorem R_put3 {W : World} {base : Nat} {ok : Nat → Prop} {g n cap : Nat} {xs : List S46} (h : Kd.R k46 46 W base ok (.slice (some ⟨g, 0, none⟩) n cap) xs) (i : Nat) (hi : i < n) (x : S46) :
    Kd.R k46 46 (W.setCells g (i * 3) (pv x)) base ok (.slice (some ⟨g, 0, none⟩) n cap) (xs.set i x) := by
  obtain ⟨ce, hcl, hM, hcc, hfr⟩ := Kd.R_elem h z46 (i : Int) (by omega) (by omega)
  have h2 := (Kd.R_seg h (i : Int) (by omega) (by omega) (seg := pv x) (j := 0) hcl hcc (show 0 + 3 ≤ 3 by omega) (x' := x) (okp := fun k => ok k ∧ k ≠ g) (by
    have : (ce.take 0 ++ pv x ++ ce.drop (0 + (pv x).length)) = pv x := by
      rw [List.drop_eq_nil_of_le (by rw [hcl]; exact Nat.le_refl 3)]
      rfl
    rw [this]
    exact k46_mkM _ _ _ x) (fun _ hk => hk)).1
  exact h2
theorem zer_eq (n : Nat) : (Builtin.zeroCells #[.int .u8 0, .int .u8 0, .int .i8 0] n).toList = (List.replicate n (pv z46)).flatten := by
  simp only [Builtin.zeroCells, Array.toList_map, Array.toList_range]
  show List.map _ (List.range (n * 3)) = _
  induction n with
  | zero => rfl
  | succ n ih =>
    rw [Nat.succ_mul, List.range_add, List.map_append, ih, List.replicate_succ', List.flatten_append]
    congr 1
    show [_, _, _] = _
    have e0 : (n * 3 + 0) % 3 = 0 := by omega
    have e1 : (n * 3 + 1) % 3 = 1 := by omega
    have e2 : (n * 3 + 2) % 3 = 2 := by omega
    show [(#[Value.int .u8 0, .int .u8 0, .int .i8 0])[(n * 3 + 0) % 3]!, (#[Value.int .u8 0, .int .u8 0, .int .i8 0])[(n * 3 + 1) % 3]!, (#[Value.int .u8 0, .int .u8 0, .int .i8 0])[(n * 3 + 2) % 3]!] = _
    rw [e0, e1, e2]
    rfl
theorem setCells_app (g : Nat) (ys : List Value) : ∀ (zs : List Value) (o : Nat) (W : World), W.setCells g o (zs ++ ys) = (W.setCells g o zs).setCells g (o + zs.length) ys
  | [], o, W => by simp [World.setCells]
  | z :: zs, o, W => by
    show (W.setCell ⟨g, o, none⟩ z).setCells g (o + 1) (zs ++ ys) = ((W.setCell ⟨g, o, none⟩ z).setCells g (o + 1) zs).setCells g (o + (zs.length + 1)) ys
    rw [setCells_app g ys zs (o + 1), show o + (zs.length + 1) = o + 1 + zs.length by omega]
theorem R_clear3 {base : Nat} {ok : Nat → Prop} {g n cap i : Nat} : ∀ (k o : Nat) (W : World) (xs : List S46), i ≤ o → o + k ≤ n → Kd.R k46 46 W base ok (.slice (some ⟨g, 0, none⟩) n cap) xs →
    ∃ xs', Kd.R k46 46 (W.setCells g (o * 3) (List.replicate k (pv z46)).flatten) base ok (.slice (some ⟨g, 0, none⟩) n cap) xs' ∧ xs'.take i = xs.take i ∧ xs'.length = xs.length := by
  intro k
  induction k with
  | zero => intro o W xs _ _ h; exact ⟨xs, h, rfl, rfl⟩
  | succ k ih =>
    intro o W xs hio hn h
    have h2 := R_put3 h o (by omega) z46
    obtain ⟨xs', h3, h4, h5⟩ := ih (o + 1) _ _ (by omega) (by omega) h2
    refine ⟨xs', ?_, ?_, by rw [h5, List.length_set]⟩
    · rw [List.replicate_succ, List.flatten_cons, setCells_app]
      rw [Nat.succ_mul] at h3
      exact h3
    · rw [h4, List.take_set_of_le hio]
theorem run_clear3 (w : World) (ty : TypeId) (b o n c : Nat) (hn : 0 < n)
    (hc : ∀ j, j < n * 3 → (w.cell? ⟨b, o + j, none⟩).isSome = true) (hf : ∀ j, j < n * 3 → w.frozen? ⟨b, o + j, none⟩ = false) :
    (Builtin.clear_ #[29] ty #[.slice (some ⟨b, o, none⟩) n c]).run Try.prog w = .ok (.tuple #[]) (w.setCells b o (List.replicate n (pv z46)).flatten) := by
  have hzc := zer_eq n
  have hlen : (List.replicate n (pv z46)).flatten.length = n * 3 := by simp [List.length_flatten]
  have hst := run_storeCells_cells (P := Try.prog) b o (List.replicate n (pv z46)).flatten 0 w (by rw [hlen]; simpa using hc) (by rw [hlen]; simpa using hf) (by
    intro v hv
    obtain ⟨l, hl, hv⟩ := List.mem_flatten.1 hv
    rw [List.eq_of_mem_replicate hl] at hv
    simp [pv] at hv
    rcases hv with rfl | rfl | rfl <;> rfl)
  simp only [Nat.add_zero] at hst
  obtain ⟨Z, hZ⟩ : ∃ Z, Z = (List.replicate n (pv z46)).flatten := ⟨_, rfl⟩
  rw [← hZ] at hzc hst ⊢
  clear hZ hlen
  obtain ⟨m, rfl⟩ : ∃ m, n = m + 1 := ⟨n - 1, by omega⟩
  simp [Builtin.clear_, run_underlying Try.underlying29, Try.zeroValue46, Value.cells, hzc, hst]
set_option maxHeartbeats 2000000 in
theorem delete_func_pair (g : Nat) (lb : Array Value) (p : S46 → Bool) (xs : List S46) (A : Option Addr) (c base : Nat) (ok : Nat → Prop) (w : World) (eg : ∀ args w, (callFunc g args).run Try.prog w = .ok (.enter g args) w) (hR : Kd.R k46 46 w base ok (.slice A xs.length c) xs) (hbase : base ≤ w.heap.size) (hmax : xs.length ≤ 1048576)
    (hc : ∀ x ∈ xs, ∀ W, Below base w W → Calls Try.prog g (#[.agg #[.int .u8 x.f0, .int .u8 x.f1, .int .i8 x.f2]] ++ lb) W fun e w' => e = .returned (.bool (p x)) ∧ Below W.heap.size W w') :
    Calls Try.prog 43 #[.slice A xs.length c, .func (.func g) #[] lb] w fun e w' => e = .returned (.slice A (xs.filter (fun x => !p x)).length c) ∧ Kd.R k46 46 w' base ok (.slice A (xs.filter (fun x => !p x)).length c) (xs.filter (fun x => !p x)) ∧ Below base w w' := by
  have HI := Lib.hid (index_func_pair g lb p xs A c w eg (Kd.R_reads' hR).2.2 (fun x hx W hW => (hc x hx W (below_size2 _ hW hbase)).mono (fun e w' ⟨h1, h2⟩ => ⟨h1, below_step hW h2⟩)))
  have HR := Lib.hid hR
  have HC := Lib.hid hc
  have HB := Lib.hid hbase
  clear hR hc hbase
  by_cases hany : xs.any p = true
  rotate_left
  · have hn : xs.any p = false := by simpa using hany
    have e1 := firstAt_miss p xs 0 hn
    have e2 := Lib.hid (take_filter_none p xs hn)
    rw [e1] at HI
    clear hany e1
    rw [e2.out]
    clear e2 hn
    go_enter Try.func43, Try.ntmps43
    go_wp2_with (go_at_call 48; with_reducible refine HI.out.mono ?_; rintro e w1 ⟨rfl, hb⟩)
    go_ret
    exact ⟨rfl, Kd.R_below HR.out hb, below_size2 _ hb HB.out⟩
  · obtain ⟨k0, hk0, hn, hp⟩ := any_first p xs hany
    have e1 := firstAt_hit p xs k0 hk0 hn hp 0
    rw [e1] at HI
    obtain ⟨b, eA, hbb, hcap⟩ := R_own0 HR.out (by omega)
    subst eA
    have HK := Lib.hid (take_filter_none p (xs.take k0) hn)
    have HS := Lib.hid (rowAt_skip p xs k0 hk0 hp)
    have d0 : ((k0 : Int) == -1) = false := beq_eq_false_iff_ne.2 (by omega)
    have d1 : decide ((k0 : Int) = -1) = false := decide_eq_false (by omega)
    simp only [Nat.add_zero] at HI
    clear hany e1
    go_enter Try.func43, Try.ntmps43
    go_wp2_with (go_at_call 48; with_reducible refine HI.out.mono ?_; rintro e w1 ⟨rfl, hb⟩; have HB1 := Lib.hid hb; clear hb)
    have R1 := Lib.hid (show Kd.R k46 46 w1 base ok (.slice (some ⟨b, 0, none⟩) xs.length c) (rowAt p xs (k0 + 1)) from by
      rw [HS.out.1]
      have e : rowAt p xs k0 = xs := by
        unfold rowAt
        rw [HK.out, List.length_take, Nat.min_eq_left (by omega), List.take_append_drop]
      rw [e]
      exact Kd.R_below HR.out HB1.out)
    have HB2 := Lib.hid (below_size2 _ HB1.out HB.out)
    have HL := Lib.hid (show ((xs.take (k0 + 1)).filter (fun x => !p x)).length = k0 from by rw [HS.out.2, HK.out, List.length_take]; omega)
    have HNL := Lib.hid (show k0 < k0 + 1 from by omega)
    clear HR HI HS HK hn hp d0 d1
    go_loopw [5, 6] (fun i jv wr => ∃ j : Nat, k0 < j ∧ j ≤ xs.length ∧ jv = .int .i64 j ∧ i = .int .i64 (((xs.take j).filter (fun x => !p x)).length : Nat) ∧ RowKit.Hid (((xs.take j).filter (fun x => !p x)).length < j) ∧ RowKit.Hid (Kd.R k46 46 wr base ok (.slice (some ⟨b, 0, none⟩) xs.length c) (rowAt p xs j)) ∧ RowKit.Hid (Below base w wr)) (fun _ j _ => xs.length - (intOf j).toNat)
    case atStart => exact ⟨k0 + 1, by omega, by omega, by go_num, by rw [HL.out], Lib.hid (by rw [HL.out]; omega), R1, HB2⟩
    case round =>
      clear R1 HB1 HB2 HL
      obtain ⟨j, hkj, hj, rfl, rfl, HLT, R, HB2⟩ := hrel
      obtain ⟨il, hil⟩ : ∃ il, il = ((xs.take j).filter (fun x => !p x)).length := ⟨_, rfl⟩
      have hij : il < j := by rw [hil]; exact HLT.out
      rw [← hil]
      have HIL := Lib.hid hil
      clear hil HLT
      by_cases hlt : j < xs.length
      · have hlt2 : (j : Int) < (xs.length : Int) := by omega
        obtain ⟨⟨cj0, cj1, cj2⟩, _⟩ := R_at46 R.out j hlt
        rw [rowAt_get p xs j hlt] at cj0 cj1 cj2
        have hil3 : il < xs.length := by omega
        obtain ⟨⟨ci0, ci1, ci2⟩, fi0, fi1, fi2⟩ := R_at46 R.out il hil3
        have hcall := Lib.hid (HC.out xs[j] (List.getElem_mem hlt))
        have HKP := Lib.hid (rowAt_keep p xs j hlt)
        have HSK := Lib.hid (rowAt_skip p xs j hlt)
        obtain ⟨x, hx⟩ : ∃ x, x = xs[j] := ⟨_, rfl⟩
        rw [← hx] at cj0 cj1 cj2 hcall HKP HSK
        have HA := Lib.hid (below_alloc (Below.refl wr.heap.size wr) (.cells #[.int .u8 x.f0, .int .u8 x.f1, .int .i8 x.f2] 46))
        have HBA := Lib.hid (HB2.out.trans (below_size2 _ HA.out (Nat.le_trans HB.out HB2.out.size)))
        have RA := Lib.hid (Kd.R_below R.out HA.out)
        have HK := Lib.hid (heap_alloc_new wr (.cells #[.int .u8 x.f0, .int .u8 x.f1, .int .i8 x.f2] 46))
        have hcj : Calls Try.prog g (#[.agg #[.int .u8 x.f0, .int .u8 x.f1, .int .i8 x.f2]] ++ lb) (wr.alloc (.cells #[.int .u8 x.f0, .int .u8 x.f1, .int .i8 x.f2] 46)) _ := hcall.out _ HBA.out
        obtain ⟨old, hold⟩ : ∃ old, old = rd_T46 (rowAt p xs j) (il : Int) := ⟨_, rfl⟩
        rw [← hold] at ci0 ci1 ci2
        clear hx hold hcall
        cases hq : p x with
        | true =>
          rw [hq] at hcj
          have HSK2 := Lib.hid (HSK.out hq)
          clear HKP HSK hq
          go_wp2_with (go_at_fn g; refine hcj.mono ?_; rintro e w2 ⟨rfl, hb⟩; have HB3 := Lib.hid hb; clear hb)
          go_roundw
          case measure => simp only [intOf]; omega
          case rel => exact ⟨j + 1, by omega, by omega, by go_num, by rw [HSK2.out.2, ← HIL.out], Lib.hid (by rw [HSK2.out.2, ← HIL.out]; omega), Lib.hid (by rw [HSK2.out.1]; exact Kd.R_below RA.out HB3.out), Lib.hid (HBA.out.trans (below_size2 _ HB3.out (Nat.le_trans HB.out HBA.out.size)))⟩
        | false =>
          rw [hq] at hcj
          have HKP2 := Lib.hid (HKP.out hq)
          clear HKP HSK hq
          go_wp2_with (go_at_fn g; refine hcj.mono ?_; rintro e w2 ⟨rfl, hb⟩; have HB3 := Lib.hid hb; obtain ⟨⟨ei0, ei1, ei2⟩, gi0, gi1, gi2⟩ := R_at46 (Kd.R_below RA.out hb) il hil3; have eb0 : w2.cell? ⟨wr.heap.size, 0, none⟩ = some (.int .u8 x.f0) := bcell hb ((blk_cell HK.out 0).trans rfl); have eb1 : w2.cell? ⟨wr.heap.size, 1, none⟩ = some (.int .u8 x.f1) := bcell hb ((blk_cell HK.out 1).trans rfl); have eb2 : w2.cell? ⟨wr.heap.size, 2, none⟩ = some (.int .i8 x.f2) := bcell hb ((blk_cell HK.out 2).trans rfl); clear hb ci0 ci1 ci2 fi0 fi1 fi2)
          go_roundw
          case measure => simp only [intOf]; omega
          case rel =>
            have h9 := R_put3 (Kd.R_below RA.out HB3.out) il hil3 x
            exact ⟨j + 1, by omega, by omega, by go_num, by rw [HKP2.out.2, ← HIL.out]; go_num, Lib.hid (by rw [HKP2.out.2, ← HIL.out]; omega), Lib.hid (by rw [HKP2.out.1, ← HIL.out]; exact h9), Lib.hid (setCells_below (pv x) _ _ _ _ (HBA.out.trans (below_size2 _ HB3.out (Nat.le_trans HB.out HBA.out.size))) hbb)⟩
      · have hlt2 : ¬ (j : Int) < (xs.length : Int) := by omega
        have ej : xs.take j = xs := List.take_of_length_le (by omega)
        have hjl : j = xs.length := by omega
        have HIL2 := Lib.hid (show il = (xs.filter (fun x => !p x)).length from by rw [HIL.out, ej])
        have hcl : ∀ ty, (Builtin.clear_ #[29] ty #[.slice (some ⟨b, il * 3, none⟩) (xs.length - il) (c - il)]).run Try.prog wr = .ok (.tuple #[]) (wr.setCells b (il * 3) (List.replicate (xs.length - il) (pv z46)).flatten) := fun ty => by
          have hcells : ∀ k, k < (xs.length - il) * 3 → (wr.cell? ⟨b, il * 3 + k, none⟩).isSome = true ∧ wr.frozen? ⟨b, il * 3 + k, none⟩ = false := fun k hk => by
            obtain ⟨⟨x0, x1, x2⟩, f0, f1, f2⟩ := R_at46 R.out (il + k / 3) (by omega)
            have h3 := Nat.div_add_mod k 3
            rcases (show k % 3 = 0 ∨ k % 3 = 1 ∨ k % 3 = 2 by omega) with h | h | h
            · rw [show il * 3 + k = (il + k / 3) * 3 by omega]; exact ⟨by rw [x0]; rfl, f0⟩
            · rw [show il * 3 + k = (il + k / 3) * 3 + 1 by omega]; exact ⟨by rw [x1]; rfl, f1⟩
            · rw [show il * 3 + k = (il + k / 3) * 3 + 2 by omega]; exact ⟨by rw [x2]; rfl, f2⟩
          exact run_clear3 wr ty b (il * 3) (xs.length - il) (c - il) (by omega) (fun k hk => (hcells k hk).1) (fun k hk => (hcells k hk).2)
        go_wp2
        go_ret
        obtain ⟨ys, h1, h2, h3⟩ := R_clear3 (i := il) (xs.length - il) il wr (rowAt p xs j) (Nat.le_refl _) (by omega) R.out
        have h4 := Kd.R_take h1 (m := il) (by rw [h3, rowAt_len]; omega)
        have h5 : (rowAt p xs j).take il = xs.filter (fun x => !p x) := by
          unfold rowAt
          rw [ej, ← HIL2.out, HIL2.out, List.take_left' rfl]
        rw [h2, h5] at h4
        rw [← HIL2.out]
        exact ⟨rfl, h4, setCells_below _ _ _ _ _ HB2.out hbb⟩
end Go.Proofs.Ytjaamcedgdhilaa.Q
