/- Words shortened where they stand: any list of places; no place named twice, told by sorting and by looking back. -/
import Derived.Test.YtiapaggkbhdnkaaGreatDoorQpureShorten
import Derived.Test.YtiapaggkbhdnkaaGreatDoorQpureInsert
import Derived.Test.YtiapaggkbhdnkaaGreatDoorQpureValidShorts
import Derived.Test.YtiapaggkbhdnkaaGreatDoorQSmall
namespace Go.Proofs.YtiapaggkbhdnkaaGreatDoor.Q
open Go.RowKit Go.Proofs.YtiapaggkbhdnkaaGreatDoorW.PrintWords Go.Proofs.YtiapaggkbhdnkaaGreatDoorW.PrintLast Go.Proofs.YtiapaggkbhdnkaaGreatDoorW.PrintMore
open Go.Proofs.YtiapaggkbhdnkaaGreatDoor.Pure Go.Lib
set_option linter.unusedVariables false

theorem shortsB_small (l : List ISh) (h : shortsB l = true) : l.length ≤ 6 ∧ ∀ x ∈ l, x.f0.size ≤ 20 ∧ x.f1.size ≤ 20 := by
  unfold shortsB at h
  rw [Bool.and_eq_true, decide_eq_true_iff, List.all_eq_true] at h
  refine ⟨by omega, fun x hx => ?_⟩
  obtain ⟨i, hi, rfl⟩ := List.getElem_of_mem hx
  have := h.1 i (List.mem_range.2 hi)
  unfold stSh okSh at this
  rw [rdISh_get _ _ hi] at this
  simp only [Bool.and_eq_true, decide_eq_true_iff] at this
  omega

theorem insV_old {out : List Int} {v : Int} (h : out.Pairwise (· < ·)) (hv : v ∈ out) : insV out v = out :=
  strict_ext _ _ (insV_sorted v h) h (fun x => insV_mem.trans ⟨fun h => by rcases h with h | rfl; exact h; exact hv, .inl⟩)
theorem insV_fresh {out : List Int} {v : Int} (hv : v ∉ out) : (insV out v).length = out.length + 1 := by
  have h1 := posV_le out v out.length
  unfold insV
  split
  · rename_i hp
    exfalso
    apply hv
    have h2 := hp.2
    rw [getD_lt (by omega)] at h2
    rw [← h2]
    exact List.getElem_mem _
  · simp only [List.length_append, List.length_take, List.length_drop, List.length_singleton]
    omega
theorem insS_nodup_go (l : List Int) : ∀ out : List Int, out.Pairwise (· < ·) → ((l.foldl insV out).length = out.length + l.length ↔ (l.Nodup ∧ ∀ x ∈ l, x ∉ out)) := by
  induction l with
  | nil => intro out h; simp
  | cons v l ih =>
    intro out h
    have hle := insS_len_go l (insV out v)
    rw [List.foldl_cons, List.length_cons, List.nodup_cons]
    by_cases hv : v ∈ out
    · rw [insV_old h hv] at hle ⊢
      constructor
      · intro h; omega
      · intro h; exact absurd hv (h.2 v (List.mem_cons_self ..))
    · have hl := insV_fresh hv
      have hi := ih (insV out v) (insV_sorted v h)
      rw [hl] at hi
      rw [show out.length + (l.length + 1) = out.length + 1 + l.length by omega, hi]
      constructor
      · rintro ⟨h1, h2⟩
        refine ⟨⟨fun hm => h2 v hm (insV_mem.2 (.inr rfl)), h1⟩, fun x hx => ?_⟩
        rcases List.mem_cons.1 hx with rfl | hx
        · exact hv
        · exact fun ho => h2 x hx (insV_mem.2 (.inl ho))
      · rintro ⟨⟨h1, h2⟩, h3⟩
        refine ⟨h2, fun x hx hm => ?_⟩
        rcases insV_mem.1 hm with ho | rfl
        · exact h3 x (List.mem_cons_of_mem _ hx) ho
        · exact h1 hx
theorem compact_nodup (l : List Int) : (compact (l.mergeSort fun x y => decide (x ≤ y))).length = l.length ↔ l.Nodup := by
  rw [← insS_compact]
  have := insS_nodup_go l [] List.Pairwise.nil
  unfold insS
  simpa using this
theorem back_nodup (l : List Int) : (∀ i (h : i < l.length), l[i] ∉ l.take i) ↔ l.Nodup := by
  unfold List.Nodup
  rw [List.pairwise_iff_getElem]
  constructor
  · intro h i j hi hj hij e
    refine h j hj ?_
    rw [← e, List.mem_iff_getElem]
    exact ⟨i, by rw [List.length_take]; omega, by rw [List.getElem_take]⟩
  · intro h i hi hm
    obtain ⟨j, hj, e⟩ := List.mem_iff_getElem.1 hm
    rw [List.length_take] at hj
    rw [List.getElem_take] at e
    exact h j i (by omega) hi (by omega) e

theorem impl_shortened.valG (ws : List ByteArray) (l : List ISh) (is : List Int) (hl : l.length ≤ 9223372036854775807) (hw : ws.length ≤ 1000000) (hi : is.length ≤ 1048576) (hm : ∀ x ∈ is, ∃ j : Nat, x = j ∧ j < ws.length) (hs : ∀ x ∈ l, x.f1.size ≤ 1048576) (hz : ∀ x ∈ ws, x.size ≤ 1048576) (k : Nat) (hk : is.length + (l.length + 1) < k) :
    impl_shortened.f k ws l is = some (joinB (putL l ws is) spB) := by
  have hc : slices_Clone_string.f ws = some ws := by unfold slices_Clone_string.f; rw [if_pos hw]
  unfold impl_shortened.f
  rw [hc, Option.bind_some]
  have := scan_inv (n := is.length) (M := l.length + 1) (l := fun k i x => impl_shortened.l0 k ws l x is (is.length : Int) i) (at_ := fun i => putL l ws (is.take i)) (r := joinB (putL l ws is) spB) (fun k i hi hM => ?_) (fun k _ => ?_) k (by omega)
  · simpa [putL] using this
  · obtain ⟨j, hj, hlt⟩ := hm is[i] (List.getElem_mem hi)
    have hpl := putL_len l ws (is.take i)
    simp only [impl_shortened.l0]
    rw [if_pos (by omega), if_pos (by omega), if_pos (by omega), rd_get _ _ hi, if_pos (by omega), if_pos (by omega), impl_shortOf.val l _ hl k (by omega), Option.bind_some, if_pos (by omega), wrap_succ hi (by omega), take_snoc is i hi, putL_snoc]
  · have hpl := putL_len l ws is
    have hj : strings_Join.f (putL l ws is) (⟨#[32]⟩ : ByteArray) = some (joinB (putL l ws is) spB) := by
      unfold strings_Join.f
      rw [if_pos ⟨⟨by omega, putL_size l ws is 1048576 hs hz⟩, by decide⟩]
      rfl
    simp only [impl_shortened.l0]
    rw [if_neg (by omega), List.take_length, hj, Option.bind_some]

theorem spec_l02At.valG (ws : List ByteArray) (l : List ISh) (is : List Int) (hl : l.length ≤ 9223372036854775807) (hw : ws.length ≤ 1000000) (hi : is.length ≤ 1048576) (hm : ∀ x ∈ is, ∃ j : Nat, x = j ∧ j < ws.length ∧ hasAt l ws j = true) (k : Nat) (hk : is.length + (l.length + 1) < k) :
    spec_l02At.f k ws l is = some (putL l ws is) := by
  unfold spec_l02At.f
  rw [Option.bind_some, if_pos (by rw [List.length_nil]; omega), List.nil_append]
  have := scan_inv (n := is.length) (M := l.length + 1) (l := fun k i x => spec_l02At.l0 k ws l is x i) (at_ := fun i => putL l ws (is.take i)) (r := putL l ws is) (fun k i hi hM => ?_) (fun k _ => ?_) k (by omega)
  · simpa [putL] using this
  · obtain ⟨j, hj, hlt, hh⟩ := hm is[i] (List.getElem_mem hi)
    have hpl := putL_len l ws (is.take i)
    simp only [spec_l02At.l0]
    unfold hasAt at hh
    rw [← hj] at hh
    rw [if_pos (by omega), if_pos (by omega), rd_get _ _ hi, if_pos (by omega), if_pos (by omega), spec_l02Of.val l _ hl k (by omega), Option.bind_some, if_pos hh, if_pos (by omega), wrap_succ hi (by omega), take_snoc is i hi, putL_snoc]
  · simp only [spec_l02At.l0]
    rw [if_neg (by omega), List.take_length]

/-- A place that no word stands at. -/
def outOf (n : Nat) (x : Int) : Bool := !(decide (0 ≤ x) && decide (x ≤ (n : Int) - 1))
/-- A place whose word has no short. -/
def bareAt (l : List ISh) (ws : List ByteArray) (x : Int) : Bool := !(ofL l (rdOf ByteArray.empty ws x)).2
def ansT (a : ByteArray) (l : List ISh) (ns : List Int) : ByteArray × Int :=
  if textB a = true then (if shortsB l = true then (if ns.any (outOf (wordsF a).length) = true then (⟨#[]⟩, 2) else (if ns.Nodup then (if ns.any (bareAt l (wordsF a)) = true then (⟨#[]⟩, 6) else (joinB (putL l (wordsF a) ns) spB, 0)) else (⟨#[]⟩, 4))) else (⟨#[]⟩, 1)) else (⟨#[]⟩, 1)
theorem which_bare (l : List ISh) (ws : List ByteArray) (x : Int) (hx : outOf ws.length x = false) : (whichTo l ws ws.length).contains x = !bareAt l ws x := by
  unfold outOf at hx
  simp only [Bool.not_eq_false', Bool.and_eq_true, decide_eq_true_iff] at hx
  obtain ⟨j, rfl⟩ : ∃ j : Nat, x = j := ⟨x.toNat, by omega⟩
  unfold bareAt
  rw [Bool.not_not, Bool.eq_iff_iff, List.contains_iff_mem]
  constructor
  · intro h
    obtain ⟨j2, e, h1, h2⟩ := whichTo_mem l ws _ _ h
    obtain rfl : j = j2 := by omega
    exact h2
  · intro h
    unfold whichTo
    exact List.mem_map.2 ⟨j, List.mem_filter.2 ⟨List.mem_range.2 (by omega), h⟩, rfl⟩
end Go.Proofs.YtiapaggkbhdnkaaGreatDoor.Q
