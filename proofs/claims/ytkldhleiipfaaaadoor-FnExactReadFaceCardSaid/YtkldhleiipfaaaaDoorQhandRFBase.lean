/- spec.ReadFace, by hand. -/
import Derived.Test.YtkldhleiipfaaaaDoorQpureRF3
import Derived.Test.YtkldhleiipfaaaaDoorQhandLawKit
import Derived.Test.YtkldhleiipfaaaaDoorQhandValidFace
namespace Go.Proofs.YtkldhleiipfaaaaDoor.Q
open Go.RowKit Go.Proofs.YtkldhleiipfaaaaDoorW.PrintWords Go.Proofs.YtkldhleiipfaaaaDoorW.PrintLast Go.Proofs.YtkldhleiipfaaaaDoorW.PrintMore
open Go.Proofs.YtkldhleiipfaaaaDoor.Pure
set_option linter.unusedVariables false
set_option linter.unusedSimpArgs false

theorem results_face {fn : Func} {p u : Tmp} (h : fn.results = #[.cell p 31, .tmp u]) (tmps : Array Value) (w : World) (g : Nat) (t : TypeId) (ws : List Int) (hx : ws.length = 26) (sp gp : Int) (v : Value)
    (hp : tmps.getD p undef = .pointer (some ⟨g, 0, none⟩)) (hg : w.heap[g]? = some (.cells (FV ws sp gp v) t (0, 0))) : (results fn tmps).run Tryd.prog w = .ok (.tuple #[.agg (FV ws sp gp v), tmps.getD u undef]) w := by
  rw [results_cell_tmp h, hp]
  have := run_loadVar_row (P := Tryd.prog) w g t 31 (FV ws sp gp v) (0, 0) _ hg Tryd.underlying31 rfl (by rw [FV_size ws hx]; kernel_rfl)
  simp [asAddr, Result.andThen, this]

def noFaceV : FaceV := (Z26, 0, 0, [])
def readR (t : ByteArray) : FaceV × Int := match specRF t.data.toList with | some f => (f, 0) | none => (noFaceV, 5)
theorem readR_none {t : ByteArray} (h : specRF t.data.toList = none) : readR t = (noFaceV, 5) := by unfold readR; rw [h]
theorem specRF_len {t : List UInt8} (h : (cutAt 59 [] t).length ≠ 4) : specRF t = none := by
  unfold specRF
  split
  · rename_i hc
    rw [hc] at h
    exact absurd rfl h
  · rfl
theorem specRF_four {t a b c d : List UInt8} (h : cutAt 59 [] t = [a, b, c, d]) : specRF t = ((numL b).bind fun s => (numL c).bind fun g => if (cutAt 32 [] a).length = 26 ∧ s ≤ 40 ∧ g ≤ 10 then (allM wdS (cutAt 32 [] a)).bind fun ws => (allM prS (if d = [] then [] else cutAt 32 [] d)).bind fun l => if validB ws s g l = true then some (ws, (s : Int), (g : Int), l) else none else none) := by
  unfold specRF
  rw [h]
theorem four_of {α : Type} {l : List α} (h : l.length = 4) : ∃ a b c d, l = [a, b, c, d] := by
  match l, h with
  | [a, b, c, d], _ => exact ⟨a, b, c, d, rfl⟩
theorem good_false {T a b c d : List UInt8} (h : specRF T = ((numL b).bind fun s => (numL c).bind fun g => if (cutAt 32 [] a).length = 26 ∧ s ≤ 40 ∧ g ≤ 10 then (allM wdS (cutAt 32 [] a)).bind fun ws => (allM prS (if d = [] then [] else cutAt 32 [] d)).bind fun l => if validB ws s g l = true then some (ws, (s : Int), (g : Int), l) else none else none))
    (hg : (decide ((cutAt 32 [] a).length = 26) && (numR b).2 && (numR c).2 && decide ((numR b).1 ≤ 40) && decide ((numR c).1 ≤ 10)) = false) : specRF T = none := by
  rw [h]
  cases hb : numL b with
  | none => rfl
  | some s =>
    cases hc : numL c with
    | none => rfl
    | some g =>
      simp only [Option.bind_some]
      rw [if_neg]
      rintro ⟨h1, h2, h3⟩
      unfold numR at hg
      rw [hb, hc] at hg
      simp [h1] at hg
      omega
set_option maxRecDepth 100000 in
theorem build31 (x y : Int) (w : World) : (Instr.build 31 #[(1, .int .i8 x), (2, .int .i8 y)]).run Tryd.prog w = .ok (.agg (FV Z26 x y (.slice none 0 0))) w := by
  unfold Instr.build
  go_simp
  rfl
/-- What the walk of spec.ReadFace keeps: the face's box, and all that lay before it. -/
structure RI (F : Array Value) (U : TypeId) (w W : World) : Prop where
  k : W.heap[w.heap.size]? = some (.cells F U (0, 0))
  b : Below w.heap.size w W
theorem RI.sz {F : Array Value} {U : TypeId} {w W : World} (h : RI F U w W) : w.heap.size + 1 ≤ W.heap.size := blk_lt h.k
theorem RI.step {F : Array Value} {U : TypeId} {w W W' : World} (h : RI F U w W) (hb : Below W.heap.size W W') : RI F U w W' := ⟨(hb.block _ (blk_lt h.k)).trans h.k, below_step h.b hb⟩
theorem RI.grown {F : Array Value} {U : TypeId} {w W W' : World} {o : Option Nat} (h : RI F U w W) (hg : W.grownBy W' o) (ho : o ≠ some w.heap.size) (hb : Below w.heap.size w W') : RI F U w W' := ⟨(hg.block _ (blk_lt h.k) (fun e => ho e.symm)).trans h.k, hb⟩
theorem RI.put {FA FB : Array Value} {U : TypeId} {w W : World} {v : Value} (h : RI FA U w W) (j : Nat) (hs : FA.setIfInBounds j v = FB) : RI FB U w (W.setCell ⟨w.heap.size, j, none⟩ v) := ⟨blk_put h.k j v hs, below_set h.b (Nat.le_refl _)⟩
theorem FV_setw (vs : List Int) (k : Nat) (hk : k < 26) (hv : vs.length = k) (sp gp n : Int) (v : Value) : (FV (vs ++ Z26.drop k) sp gp v).setIfInBounds k (.int .i8 n) = FV ((vs ++ [n]) ++ Z26.drop (k + 1)) sp gp v := by
  have hz : Z26.drop k = (0 : Int) :: Z26.drop (k + 1) := by
    rw [List.drop_eq_getElem_cons (show k < Z26.length from hk)]
    congr 1
    unfold Z26
    rw [List.getElem_replicate]
  unfold FV
  rw [hz, List.setIfInBounds_toArray]
  congr 1
  simp only [List.map_append, List.map_cons, List.append_assoc, List.cons_append, List.nil_append, List.map_nil]
  rw [List.set_append_right _ _ (by rw [List.length_map]; omega), List.length_map, hv, Nat.sub_self, List.set_cons_zero]
theorem FV_two (x y : Int) : (ZF.toList.set 26 (.int .i8 x)).set 27 (.int .i8 y) = (FV Z26 x y (.slice none 0 0)).toList := rfl
theorem FVw_len (vs : List Int) (k : Nat) (hk : k ≤ 26) (hv : vs.length = k) : (vs ++ Z26.drop k).length = 26 := by rw [List.length_append, List.length_drop, Z26_len]; omega
def tailRF (n1 n2 : Int) (d : List UInt8) (ws : List Int) : Option FaceV := (allM prS (if d = [] then [] else cutAt 32 [] d)).bind fun l => if validB ws n1 n2 l = true then some (ws, n1, n2, l) else none
theorem good_true {T a b c d : List UInt8} {n1 n2 : Int} (h : specRF T = ((numL b).bind fun s => (numL c).bind fun g => if (cutAt 32 [] a).length = 26 ∧ s ≤ 40 ∧ g ≤ 10 then (allM wdS (cutAt 32 [] a)).bind fun ws => (allM prS (if d = [] then [] else cutAt 32 [] d)).bind fun l => if validB ws s g l = true then some (ws, (s : Int), (g : Int), l) else none else none))
    (hb : (n1, true) = numR b) (hc : (n2, true) = numR c) (h26 : (cutAt 32 [] a).length = 26) (h40 : n1 ≤ 40) (h10 : n2 ≤ 10) : specRF T = (allM wdS (cutAt 32 [] a)).bind (tailRF n1 n2 d) := by
  rw [h]
  unfold numR at hb hc
  cases h1 : numL b with
  | none => rw [h1] at hb; simp at hb
  | some s =>
    cases h2 : numL c with
    | none => rw [h2] at hc; simp at hc
    | some g =>
      rw [h1] at hb
      rw [h2] at hc
      simp only [Prod.mk.injEq, and_true] at hb hc
      subst hb
      subst hc
      simp only [Option.bind_some]
      rw [if_pos ⟨h26, by omega, by omega⟩]
      rfl
theorem allM_snoc {α β : Type} {f : α → Option β} {l : List α} {k : Nat} (hk : k < l.length) {r : List β} (h : allM f (l.take k) = some r) {y : β} (hy : f l[k] = some y) : allM f (l.take (k + 1)) = some (r ++ [y]) := by
  rw [List.take_add_one, List.getElem?_eq_getElem hk, Option.toList_some]
  generalize l[k] = x0 at hy ⊢
  generalize l.take k = m at h ⊢
  clear hk
  induction m generalizing r with
  | nil => simp only [allM] at h; cases h; simp [allM, hy]
  | cons x m ih =>
    rw [allM] at h
    rw [List.cons_append, allM]
    cases hx : f x with
    | none => rw [hx] at h; cases h
    | some z =>
      rw [hx, Option.bind_some] at h
      cases hm : allM f m with
      | none => rw [hm] at h; cases h
      | some q =>
        rw [hm] at h
        cases h
        rw [Option.bind_some, ih hm]
        rfl
theorem allM_bad {α β : Type} {f : α → Option β} {l : List α} {x : α} (hx : x ∈ l) (h : f x = none) : allM f l = none := by
  induction l with
  | nil => cases hx
  | cons z l ih =>
    rw [allM]
    rcases List.mem_cons.1 hx with rfl | hm
    · rw [h]; rfl
    · cases f z with
      | none => rfl
      | some q => rw [Option.bind_some, ih hm]; rfl
theorem rdMk (l : List (List UInt8)) (k : Nat) (h : k < l.length) : rdOf ByteArray.empty (l.map mkB) (k : Int) = mkB l[k] := by
  unfold rdOf
  rw [List.getD_eq_getElem?_getD, Int.toNat_natCast, List.getElem?_map, List.getElem?_eq_getElem h]
  rfl
theorem wdS_num {x : List UInt8} {n : Int} {ok : Bool} (h : (n, ok) = numR x) : wdS x = (if ok = true ∧ n ≤ 40 then some n else none) := by
  unfold numR at h
  unfold wdS
  cases hx : numL x with
  | none => rw [hx] at h; cases h; rfl
  | some m =>
    rw [hx] at h
    cases h
    simp only [Option.bind_some]
    by_cases hm : m ≤ 40
    · rw [if_pos hm, if_pos ⟨trivial, by omega⟩]
    · rw [if_neg hm, if_neg (fun h => hm (by omega))]
theorem numR_nn {x : List UInt8} {n : Int} {ok : Bool} (h : (n, ok) = numR x) : 0 ≤ n := by
  unfold numR at h
  split at h <;> cases h <;> omega
theorem prS_pr {x : List UInt8} {p : Int × Int × Int × Bool} (h : p = prR x) : prS x = (if p.2.2.2 = true then some ⟨p.1, p.2.1, p.2.2.1⟩ else none) := by
  subst h
  unfold prR
  cases prS x with
  | none => rfl
  | some q => rfl
theorem prS_fit {x : List UInt8} {p : S48} (h : prS x = some p) : -10 ≤ p.f2 ∧ p.f2 ≤ 10 := by
  unfold prS at h
  split at h
  · split at h
    · rename_i r _
      cases hn : numL r with
      | none => rw [hn] at h; cases h
      | some n =>
        rw [hn, Option.bind_some] at h
        split at h
        · cases h
          dsimp only
          split <;> omega
        · cases h
    · cases h
  · cases h
theorem join_ge : ∀ ws : List (List UInt8), (∀ w ∈ ws, w ≠ []) → ws.length ≤ (Lib.join ws [32]).length
  | [], _ => Nat.zero_le _
  | [x], h => by
    have h1 : x ≠ [] := h x (by simp)
    have h2 := List.length_pos_iff.2 h1
    rw [Lib.join_one]
    exact h2
  | x :: y :: r, h => by
    have h1 : x ≠ [] := h x (by simp)
    have h2 := List.length_pos_iff.2 h1
    have h3 := join_ge (y :: r) (fun w hw => h w (List.mem_cons_of_mem _ hw))
    rw [join_cons2]
    simp only [List.length_append, List.length_cons] at h3 ⊢
    omega
theorem pairs_len {d : List UInt8} {l : List S48} (h : allM prS (if d = [] then [] else cutAt 32 [] d) = some l) (hd : d.length ≤ 1048576) : l.length ≤ 1048576 := by
  by_cases h0 : d = []
  · rw [if_pos h0] at h
    cases h
    exact Nat.zero_le _
  · rw [if_neg h0] at h
    have h1 := allM_len _ _ _ h
    have h2 := allM_some _ _ _ h
    have h3 := join_ge (cutAt 32 [] d) (fun w hw he => by
      have h4 : prS w ∈ (cutAt 32 [] d).map prS := List.mem_map.2 ⟨w, hw, rfl⟩
      rw [h2, he] at h4
      obtain ⟨y, _, hy⟩ := List.mem_map.1 h4
      cases hy)
    rw [join_cutAt, List.nil_append] at h3
    omega
theorem fit_read {vs : List Int} {n1 n2 : Int} {l : List S48} (hx : vs.length = 26) (hv : ∀ x ∈ vs, 0 ≤ x ∧ x ≤ 40) (h1 : 0 ≤ n1 ∧ n1 ≤ 40) (h2 : 0 ≤ n2 ∧ n2 ≤ 10) (hl : ∀ p ∈ l, -10 ≤ p.f2 ∧ p.f2 ≤ 10) : Fit vs n1 n2 l := by
  refine ⟨fun k hk => ?_, by omega, by omega, fun k hk => ?_⟩
  · rw [Pure.rd_get vs k (by omega)]
    have := hv _ (List.getElem_mem (show k < vs.length by omega))
    omega
  · rw [rd46_get l k hk]
    have := hl _ (List.getElem_mem hk)
    omega
theorem fit_pairs {x : List (List UInt8)} {l : List S48} (h : allM prS x = some l) : ∀ p ∈ l, -10 ≤ p.f2 ∧ p.f2 ≤ 10 := fun p hp => by
  obtain ⟨y, _, hy⟩ := allM_mem _ _ _ h p hp
  exact prS_fit hy
theorem info48' : (Tryd.prog.info? 48).map (fun i => (i.zero, i.size, i.bytes)) = some (some (.agg #[.int .u8 0, .int .u8 0, .int .i8 0]), 3, 3) := by kernel_rfl
theorem tail_bad {n1 n2 : Int} {d : List UInt8} {ws : List Int} (h : allM prS (if d = [] then [] else cutAt 32 [] d) = none) : tailRF n1 n2 d ws = none := by unfold tailRF; rw [h]; rfl
theorem tail_some {n1 n2 : Int} {d : List UInt8} {ws : List Int} {l : List S48} (h : allM prS (if d = [] then [] else cutAt 32 [] d) = some l) : tailRF n1 n2 d ws = if validB ws n1 n2 l = true then some (ws, n1, n2, l) else none := by unfold tailRF; rw [h]; rfl
theorem readR_some {t : ByteArray} {f : FaceV} (h : specRF t.data.toList = some f) : readR t = (f, 0) := by unfold readR; rw [h]
theorem splitC (t : ByteArray) (ht : t.size ≤ 1048576) (c : UInt8) (w : World) : Calls Tryd.prog 25 #[.string t, .int .u8 (c.toNat : Int)] w fun e w' => ∃ v0_ : Value, e = .returned (v0_) ∧ Kd.R Kd.string 9 w' w.heap.size (fun _ => True) v0_ ((cutAt c [] t.data.toList).map mkB) ∧ Below w.heap.size w w' :=
  spec_l01Split.calls (t.size + 1) t (c.toNat : Int) _ w (spec_l01Split.val t c ht _ (Nat.le_refl _))
theorem splitC59 (t : ByteArray) (ht : t.size ≤ 1048576) (w : World) : Calls Tryd.prog 25 #[.string t, .int .u8 59] w fun e w' => ∃ v0_ : Value, e = .returned (v0_) ∧ Kd.R Kd.string 9 w' w.heap.size (fun _ => True) v0_ ((cutAt 59 [] t.data.toList).map mkB) ∧ Below w.heap.size w w' := splitC t ht 59 w
theorem splitC32 (l : List UInt8) (ht : l.length ≤ 1048576) (w : World) : Calls Tryd.prog 25 #[.string (mkB l), .int .u8 32] w fun e w' => ∃ v0_ : Value, e = .returned (v0_) ∧ Kd.R Kd.string 9 w' w.heap.size (fun _ => True) v0_ ((cutAt 32 [] l).map mkB) ∧ Below w.heap.size w w' := splitC (mkB l) (by rw [mk_size]; exact ht) 32 w
theorem numC (l : List UInt8) (w : World) : Calls Tryd.prog 26 #[.string (mkB l)] w fun e w' => e = .returned (.tuple #[.int .i64 (numR l).1, .bool (numR l).2]) ∧ Below w.heap.size w w' :=
  (spec_l01Number.calls 20 (mkB l) (numR l).1 (numR l).2 w (spec_l01Number.val l 20 (by decide))).mono (fun e w' h => ⟨h.1, by obtain ⟨nd, e⟩ := h.2; exact e ▸ pw_below_drewN (Below.refl _ _) nd⟩)
theorem readPairC (l : List UInt8) (w : World) : Calls Tryd.prog 27 #[.string (mkB l)] w fun e w' => e = .returned (.tuple #[.agg #[.int .u8 (prR l).1, .int .u8 (prR l).2.1, .int .i8 (prR l).2.2.1], .bool (prR l).2.2.2]) ∧ Below w.heap.size w w' :=
  spec_l01ReadPair.calls 30 (mkB l) (prR l).1 (prR l).2.1 (prR l).2.2.1 (prR l).2.2.2 w (spec_l01ReadPair.val l 30 (by decide))
end Go.Proofs.YtkldhleiipfaaaaDoor.Q
