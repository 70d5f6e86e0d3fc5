/- slices.SortFunc over a row of pairs of one's own, by comparePairs, out of the shelf: the same pairs, in their order. -/
import Derived.Test.YtjaamcedgdhilaaSortP
import Derived.Test.YtjaamcedgdhilaaQhandCmpL
import Derived.Test.YtjaamcedgdhilaaQhandDelP
namespace Go.Proofs.Ytjaamcedgdhilaa.Q
open Go.RowKit Go.Proofs.YtjaamcedgdhilaaW.PrintWords Go.Proofs.YtjaamcedgdhilaaW.PrintLast Go.Proofs.YtjaamcedgdhilaaW.PrintMore
open Go.Sort
set_option linter.unusedVariables false
set_option linter.unusedSimpArgs false

instance inh46 : Inhabited S46 := ⟨z46⟩
def cfP (p q : S46) : Int := (impl_comparePairs.f 3 p.f0 p.f1 p.f2 q.f0 q.f1 q.f2).getD 0
theorem cfP_spec (p q : S46) : impl_comparePairs.f 3 p.f0 p.f1 p.f2 q.f0 q.f1 q.f2 = some (cfP p q) ∧ ltOf cfP p q = aheadP p q := by
  obtain ⟨r, h1, h2⟩ := comparePairs_val p q
  have e : cfP p q = r := by unfold cfP; rw [h1]; rfl
  refine ⟨by rw [e]; exact h1, ?_⟩
  unfold ltOf
  rw [e]
  by_cases h : 0 ≤ r
  · have : aheadP p q = false := by rw [decide_eq_true h] at h2; simpa using h2
    rw [this]
    exact decide_eq_false (by omega)
  · have : aheadP p q = true := by rw [decide_eq_false h] at h2; simpa using h2
    rw [this]
    exact decide_eq_true (by omega)
theorem swoP : SWO (ltOf cfP) where
  irrefl x := by rw [(cfP_spec x x).2]; unfold aheadP; simp
  trans x y z h1 h2 := by
    rw [(cfP_spec _ _).2] at *
    unfold aheadP at *
    simp only [Bool.or_eq_true, Bool.and_eq_true, decide_eq_true_eq] at *
    omega
  ntrans x y z h1 h2 := by
    rw [(cfP_spec _ _).2] at *
    unfold aheadP at *
    simp only [Bool.or_eq_false_iff, Bool.and_eq_false_iff, decide_eq_false_iff_not] at *
    omega
theorem pv_len (x : S46) : (pv x).length = 3 := rfl
theorem pv_one (x : S46) : ∀ v ∈ pv x, v.oneCell' = true := by
  intro v hv
  simp [pv] at hv
  rcases hv with rfl | rfl | rfl <;> rfl
theorem flat_get (l : List S46) (j i : Nat) (hj : j < l.length) (hi : i < 3) : (flatK pv 3 l.toArray)[j * 3 + i]! = (pv (rd_T46 l (j : Nat)))[i]! := by
  rw [get_flatK pv 3 l.toArray (j * 3 + i) (by simp; omega), show (j * 3 + i) / 3 = j by omega, show (j * 3 + i) % 3 = i by omega]
  congr 2
  rw [getElem!_pos l.toArray j (by simpa using hj), rd46_get _ _ hj]
  simp
theorem holds_of_R {W : World} {base : Nat} {ok : Nat → Prop} {g cap : Nat} {l : List S46} (h : Kd.R k46 46 W base ok (.slice (some ⟨g, 0, none⟩) l.length cap) l) : HoldsK pv 3 W g 0 l.toArray := by
  intro t ht
  have ht' : t < l.length * 3 := by simpa using ht
  obtain ⟨⟨c0, c1, c2⟩, f0, f1, f2⟩ := R_at46 h (t / 3) (by omega)
  have hg := flat_get l (t / 3) (t % 3) (by omega) (by omega)
  rw [show t / 3 * 3 + t % 3 = t by omega] at hg
  rw [Nat.zero_add]
  show W.cell? ⟨g, t, none⟩ = some ((flatK pv 3 l.toArray)[t]!) ∧ _
  rw [hg]
  rcases (show t % 3 = 0 ∨ t % 3 = 1 ∨ t % 3 = 2 by omega) with e | e | e
  · rw [e, show t = t / 3 * 3 by omega]; rw [show t / 3 * 3 / 3 = t / 3 by omega]; exact ⟨c0, f0⟩
  · have e2 : t = t / 3 * 3 + 1 := by omega
    rw [e]; rw [e2]; rw [show (t / 3 * 3 + 1) / 3 = t / 3 by omega]; exact ⟨c1, f1⟩
  · have e2 : t = t / 3 * 3 + 2 := by omega
    rw [e]; rw [e2]; rw [show (t / 3 * 3 + 2) / 3 = t / 3 by omega]; exact ⟨c2, f2⟩
theorem flat_reps (W : World) (base : Nat) (ok : Nat → Prop) (l : List S46) : Reps (Kd.M k46 W base ok) 3 l (flatK pv 3 l.toArray).toList := by
  refine ⟨by simp, fun j p hj => ?_⟩
  obtain ⟨hjl, he⟩ := List.getElem?_eq_some_iff.1 hj
  have : ((flatK pv 3 l.toArray).toList.drop (j * 3)).take 3 = pv p := by
    apply List.ext_getElem?
    intro i
    by_cases hi : i < 3
    · have hlt : j * 3 + i < (flatK pv 3 l.toArray).size := by simp; omega
      have hg := flat_get l j i hjl hi
      rw [getElem!_pos (flatK pv 3 l.toArray) (j * 3 + i) hlt] at hg
      rw [List.getElem?_take_of_lt hi, List.getElem?_drop, Array.getElem?_toList, Array.getElem?_eq_getElem hlt, hg, rd46_get _ _ hjl, he]
      rw [getElem!_pos (pv p) i (by rw [pv_len]; exact hi), List.getElem?_eq_getElem (by rw [pv_len]; exact hi)]
    · rw [List.getElem?_take_eq_none (by omega), List.getElem?_eq_none (by rw [pv_len]; omega)]
  rw [this]
  exact k46_mkM _ _ _ p
theorem heap_sortedP {w : World} {g n : Nat} {os : Array Obj} {cur : Array Value} {e : TypeId} {fr : Nat × Nat} (F : Array Value) (hb : w.heap[g]? = some (.cells cur e fr)) :
    (grow (putRow id (Sort.ahead w n) g 0 F) os).heap[g]? = some (.cells (putCells id 0 F cur) e fr) := by
  have hg : g < w.heap.size := (Array.getElem?_eq_some_iff.1 hb).1
  rw [heap_grow_old _ _ (by simpa using hg)]
  simp [putRow, mapBlock, Sort.ahead, Array.getElem?_modify, hb, onCells]
theorem grownBy_sortedP {w : World} {g n : Nat} {os : Array Obj} (F : Array Value) : w.grownBy (grow (putRow id (Sort.ahead w n) g 0 F) os) (some g) := by
  refine ⟨rfl, rfl, rfl, by simp, fun k hk hne => ?_⟩
  rw [heap_grow_old _ _ (by simpa using hk)]
  have : g ≠ k := fun e => hne (by rw [e])
  simp [putRow, mapBlock, Sort.ahead, Array.getElem?_modify, this]
theorem take_putP (cur F : Array Value) (h : F.size ≤ cur.size) : (putCells id 0 F cur).toList.take F.size = F.toList := by
  apply List.ext_getElem?
  intro j
  by_cases hj : j < F.size
  · rw [List.getElem?_take_of_lt hj, Array.getElem?_toList, Array.getElem?_toList]
    simp [putCells, hj, show j < cur.size by omega]
  · rw [List.getElem?_take_eq_none (by omega), List.getElem?_eq_none (by simp; omega)]
theorem R_sortedP {w : World} {base g cap n : Nat} {ok : Nat → Prop} {os : Array Obj} {l l' : List S46} (h : Kd.R k46 46 w base ok (.slice (some ⟨g, 0, none⟩) l.length cap) l) (hl : l'.length = l.length) :
    Kd.R k46 46 (sortWorldK pv 3 w g 0 n l'.toArray os) base ok (.slice (some ⟨g, 0, none⟩) l.length cap) l' := by
  obtain ⟨h0, inner, ho, hr⟩ := h
  refine ⟨h0, (flatK pv 3 l'.toArray).toList, ?_, flat_reps _ _ _ l'⟩
  rcases ho.2 with ⟨h1, _⟩ | ⟨g', cap', cur, h1, hbase, hb, hn, hcap, hsz, htk⟩
  · cases h1
  · injection h1 with e1 e2 e3
    injection e1 with e1
    injection e1 with e1
    subst e1; subst e3
    have hs : (flatK pv 3 l'.toArray).size = l'.length * 3 := by simp
    refine ⟨by simp [hl]; rfl, .inr ⟨g, cap, putCells id 0 (flatK pv 3 l'.toArray) cur, by rw [hl], hbase, heap_sortedP _ hb, by omega, hcap, by simp [putCells]; exact hsz, ?_⟩⟩
    have hk : k46.sz = 3 := rfl
    have hc3 : cur.size = cap * 3 := hsz
    have := take_putP cur (flatK pv 3 l'.toArray) (by rw [hs, hc3, hl]; exact Nat.mul_le_mul_right 3 hn)
    rw [hs] at this
    exact this
set_option maxHeartbeats 1000000 in
theorem sortPC (g c : Nat) (l : List S46) (base : Nat) (ok : Nat → Prop) (w : World) (hR : Kd.R k46 46 w base ok (.slice (some ⟨g, 0, none⟩) l.length c) l) (hl : l.length ≤ 1048576) :
    Calls Try.prog 46 #[.slice (some ⟨g, 0, none⟩) l.length c, .func (.func 45) #[] #[]] w fun e w' => e = .returned (.tuple #[]) ∧ ∃ l' : List S46, l'.Perm l ∧ l'.Pairwise (fun x y => aheadP y x = false) ∧ Kd.R k46 46 w' base ok (.slice (some ⟨g, 0, none⟩) l.length c) l' ∧ w.grownBy w' (some g) := by
  have eg : ∀ args w, (callFunc 45 args).run Try.prog w = .ok (.enter 45 args) w := enters_of Try.func45 (by kernel_rfl) rfl
  have hblk : g < w.heap.size := by
    obtain ⟨h0, inner, ho, hr⟩ := hR
    rcases ho.2 with ⟨h1, _⟩ | ⟨g', cap', cur, h1, hbase, hb, _⟩
    · cases h1
    · injection h1 with e1 e2 e3
      injection e1 with e1
      injection e1 with e1
      subst e1
      exact (Array.getElem?_eq_some_iff.1 hb).1
  have hcmp : CmpLays Try.prog 45 #[] pv 3 cfP g 0 l.toArray.size w := fun m os dk hdk x y => comparePairsL 3 x.f0 x.f1 x.f2 y.f0 y.f1 y.f2 (cfP x y) _ (cfP_spec x y).1
  have hcon := AnyQ.slices_SortFunc Try.lSortP 3 (fun w => Try.isAgg46 w) (fun w => Try.sizeOf46 w) pv pv_len pv_one cfP swoP 45 #[] g 0 c l.toArray w eg hcmp (holds_of_R hR) hblk (by simp; omega)
  have hsz : l.toArray.size = l.length := by simp
  rw [hsz] at hcon
  refine Calls.mono (show Calls Try.prog 46 #[.slice (some ⟨g, 0, none⟩) l.length c, .func (.func 45) #[] #[]] w _ from hcon) ?_
  rintro e w' ⟨rfl, d', n, os, ⟨hs, _, hp⟩, hso, rfl⟩
  have hs2 : d'.size = l.length := by rw [hs, hsz]
  refine ⟨rfl, d'.toList, ?_, ?_, ?_, ?_⟩
  · have e1 : d'.extract 0 l.length = d' := by rw [← hs2]; exact Array.extract_size
    rw [e1] at hp
    have e2 : (l.toArray.extract 0 l.length).toList = l := by simp
    rw [e2] at hp
    exact hp
  · rw [List.pairwise_iff_getElem]
    intro i j hi hj hij
    have hi' : i < d'.size := by simpa using hi
    have hj' : j < d'.size := by simpa using hj
    have := hso i j (Nat.zero_le _) hij (by omega)
    rw [getElem!_pos d' j hj', getElem!_pos d' i hi', (cfP_spec _ _).2] at this
    exact this
  · have := R_sortedP (n := n) (os := os) (l' := d'.toList) hR (by simpa using hs2)
    simpa using this
  · exact grownBy_sortedP _
end Go.Proofs.Ytjaamcedgdhilaa.Q
