/- A word's short, the words that have one, the shortened text: program and reference alike. -/
import Derived.Test.YtiapaggkbhdnkaaGreatDoorQpureShorts
import Derived.Test.YtiapaggkbhdnkaaGreatDoorQpureFields
import Derived.Test.YtiapaggkbhdnkaaGreatDoorQlibJ
import Derived.Test.YtiapaggkbhdnkaaGreatDoorQlibCloneT
import Derived.Test.YtiapaggkbhdnkaaGreatDoorQSmall
import Derived.Test.YtiapaggkbhdnkaaGreatDoorQimplwithShorts
import Derived.Test.YtiapaggkbhdnkaaGreatDoorQimplshortened
import Derived.Test.YtiapaggkbhdnkaaGreatDoorQspecl02At
import Derived.Test.YtiapaggkbhdnkaaGreatDoorQspecl01Joined
import Derived.Test.YtiapaggkbhdnkaaGreatDoorQpureJoined
namespace Go.Proofs.YtiapaggkbhdnkaaGreatDoor.Q
open Go.RowKit Go.Proofs.YtiapaggkbhdnkaaGreatDoorW.PrintWords Go.Proofs.YtiapaggkbhdnkaaGreatDoorW.PrintLast Go.Proofs.YtiapaggkbhdnkaaGreatDoorW.PrintMore
open Go.Proofs.YtiapaggkbhdnkaaGreatDoor.Pure
set_option linter.unusedVariables false

/-- A word's short, if it has one. -/
def ofL : List ISh → ByteArray → ByteArray × Bool
  | [], _ => (⟨#[]⟩, false)
  | x :: l, w => if x.f0 = w then (x.f1, true) else ofL l w
theorem ofL_size (l : List ISh) (w : ByteArray) (M : Nat) (h : ∀ x ∈ l, x.f1.size ≤ M) : (ofL l w).1.size ≤ M := by
  induction l with
  | nil => exact Nat.zero_le _
  | cons x l ih =>
    unfold ofL
    split
    · exact h x (List.mem_cons_self ..)
    · exact ih (fun y hy => h y (List.mem_cons_of_mem _ hy))
theorem spec_l02Of.val (l : List ISh) (w : ByteArray) (hl : l.length ≤ 9223372036854775807) (k : Nat) (hk : l.length < k) : spec_l02Of.f k l w = some (ofL l w) := by
  have key : ∀ d i k, i + d = l.length → d < k → spec_l02Of.l0 k l w (i : Nat) = some (ofL (l.drop i) w) := by
    intro d
    induction d with
    | zero =>
      intro i k hi hk
      obtain ⟨k, rfl⟩ : ∃ m, k = m + 1 := ⟨k - 1, by omega⟩
      obtain rfl : i = l.length := by omega
      rw [spec_l02Of.l0, if_neg (by omega), List.drop_length]
      rfl
    | succ d ih =>
      intro i k hi hk
      obtain ⟨k, rfl⟩ : ∃ m, k = m + 1 := ⟨k - 1, by omega⟩
      have hlt : i < l.length := by omega
      rw [spec_l02Of.l0, if_pos (by omega), if_pos (by omega), rdISh_get _ _ hlt, wrap_succ hlt hl, List.drop_eq_getElem_cons hlt, ofL, ih (i + 1) k (by omega) (by omega)]
      simp only [bytes_eq]
      by_cases h : l[i].f0 = w
      · rw [if_pos h, if_pos h]
      · rw [if_neg h, if_neg h]
  exact key l.length 0 k (by omega) hk
theorem impl_shortOf.val (l : List ISh) (w : ByteArray) (hl : l.length ≤ 9223372036854775807) (k : Nat) (hk : l.length < k) : impl_shortOf.f k l w = some (ofL l w) := by
  have key : ∀ d i k, i + d = l.length → d < k → impl_shortOf.l0 k w l (l.length : Int) (i : Nat) = some (ofL (l.drop i) w) := by
    intro d
    induction d with
    | zero =>
      intro i k hi hk
      obtain ⟨k, rfl⟩ : ∃ m, k = m + 1 := ⟨k - 1, by omega⟩
      obtain rfl : i = l.length := by omega
      rw [impl_shortOf.l0, if_neg (by omega), List.drop_length]
      rfl
    | succ d ih =>
      intro i k hi hk
      obtain ⟨k, rfl⟩ : ∃ m, k = m + 1 := ⟨k - 1, by omega⟩
      have hlt : i < l.length := by omega
      rw [impl_shortOf.l0, if_pos (by omega), if_pos (by omega), if_pos (by omega), rdISh_get _ _ hlt, wrap_succ hlt hl, List.drop_eq_getElem_cons hlt, ofL, ih (i + 1) k (by omega) (by omega)]
      simp only [bytes_eq]
      by_cases h : l[i].f0 = w
      · rw [if_pos h, if_pos h]
      · rw [if_neg h, if_neg h]
  exact key l.length 0 k (by omega) hk

/-- Where the words stand that have a short. -/
def hasAt (l : List ISh) (ws : List ByteArray) (j : Nat) : Bool := (ofL l (rdOf ByteArray.empty ws (j : Nat))).2
def whichTo (l : List ISh) (ws : List ByteArray) (n : Nat) : List Int := ((List.range n).filter (hasAt l ws)).map fun (j : Nat) => (j : Int)
theorem whichTo_len (l : List ISh) (ws : List ByteArray) (n : Nat) : (whichTo l ws n).length ≤ n := by
  unfold whichTo
  rw [List.length_map]
  have := List.length_filter_le (hasAt l ws) (List.range n)
  rwa [List.length_range] at this
theorem whichTo_mem (l : List ISh) (ws : List ByteArray) (n : Nat) (x : Int) (h : x ∈ whichTo l ws n) : ∃ j : Nat, x = j ∧ j < n ∧ hasAt l ws j = true := by
  unfold whichTo at h
  obtain ⟨j, hj, rfl⟩ := List.mem_map.1 h
  rw [List.mem_filter, List.mem_range] at hj
  exact ⟨j, rfl, hj.1, hj.2⟩
theorem whichTo_yes (l : List ISh) (ws : List ByteArray) (n : Nat) (h : hasAt l ws n = true) : whichTo l ws (n + 1) = whichTo l ws n ++ [(n : Int)] := by
  unfold whichTo
  rw [List.range_succ, List.filter_append, List.map_append, List.filter_cons_of_pos h]
  rfl
theorem whichTo_no (l : List ISh) (ws : List ByteArray) (n : Nat) (h : ¬ hasAt l ws n = true) : whichTo l ws (n + 1) = whichTo l ws n := by
  unfold whichTo
  rw [List.range_succ, List.filter_append, List.map_append, List.filter_cons_of_neg h]
  simp
theorem impl_withShorts.val (ws : List ByteArray) (l : List ISh) (hl : l.length ≤ 9223372036854775807) (hw : ws.length ≤ 1000000) (k : Nat) (hk : ws.length + (l.length + 1) < k) : impl_withShorts.f k ws l = some (whichTo l ws ws.length) := by
  unfold impl_withShorts.f
  refine scan_inv (n := ws.length) (M := l.length + 1) (l := fun k i x => impl_withShorts.l0 k l x ws (ws.length : Int) i) (at_ := fun i => whichTo l ws i) (r := whichTo l ws ws.length) (fun k i hi hM => ?_) (fun k _ => ?_) k hk
  · simp only [impl_withShorts.l0]
    have hn := whichTo_len l ws i
    rw [if_pos (by omega), if_pos (by omega), if_pos (by omega), impl_shortOf.val l _ hl k (by omega), Option.bind_some, wrap_succ hi (by omega)]
    by_cases h : (ofL l (rdOf ByteArray.empty ws (i : Nat))).2 = true
    · rw [if_pos h, if_pos (by omega), whichTo_yes _ _ _ h]
    · rw [if_neg h, whichTo_no _ _ _ h]
  · simp only [impl_withShorts.l0]
    rw [if_neg (by omega)]
/-- The words, those at 'is' made short. -/
def putL (l : List ISh) (ws : List ByteArray) (is : List Int) : List ByteArray := is.foldl (fun x j => x.set j.toNat (ofL l (rdOf ByteArray.empty ws j)).1) ws
theorem putL_len (l : List ISh) (ws : List ByteArray) (is : List Int) : (putL l ws is).length = ws.length := by
  unfold putL
  have : ∀ (x : List ByteArray), (is.foldl (fun x j => x.set j.toNat (ofL l (rdOf ByteArray.empty ws j)).1) x).length = x.length := by
    induction is with
    | nil => intro x; rfl
    | cons j is ih => intro x; rw [List.foldl_cons, ih]; simp
  exact this ws
theorem putL_snoc (l : List ISh) (ws : List ByteArray) (is : List Int) (j : Int) : putL l ws (is ++ [j]) = (putL l ws is).set j.toNat (ofL l (rdOf ByteArray.empty ws j)).1 := by
  unfold putL
  rw [List.foldl_append]
  rfl
theorem putL_size (l : List ISh) (ws : List ByteArray) (is : List Int) (M : Nat) (h : ∀ x ∈ l, x.f1.size ≤ M) (hw : ∀ x ∈ ws, x.size ≤ M) : ∀ x ∈ putL l ws is, x.size ≤ M := by
  unfold putL
  have : ∀ (y : List ByteArray), (∀ x ∈ y, x.size ≤ M) → ∀ x ∈ is.foldl (fun x j => x.set j.toNat (ofL l (rdOf ByteArray.empty ws j)).1) y, x.size ≤ M := by
    induction is with
    | nil => intro y hy; exact hy
    | cons j is ih =>
      intro y hy
      rw [List.foldl_cons]
      refine ih _ (fun x hx => ?_)
      rcases List.mem_or_eq_of_mem_set hx with h1 | rfl
      · exact hy x h1
      · exact ofL_size l _ M h
  exact this ws hw

def shortT (l : List ISh) (ws : List ByteArray) : ByteArray := joinB (putL l ws (whichTo l ws ws.length)) spB

theorem impl_shortened.val (ws : List ByteArray) (l : List ISh) (hl : l.length ≤ 9223372036854775807) (hw : ws.length ≤ 1000000) (hs : ∀ x ∈ l, x.f1.size ≤ 1048576) (hz : ∀ x ∈ ws, x.size ≤ 1048576) (k : Nat) (hk : ws.length + (l.length + 1) < k) :
    impl_shortened.f k ws l (whichTo l ws ws.length) = some (shortT l ws) := by
  have hn := whichTo_len l ws ws.length
  have hc : slices_Clone_string.f ws = some ws := by unfold slices_Clone_string.f; rw [if_pos hw]
  unfold impl_shortened.f
  rw [hc, Option.bind_some]
  have hm := whichTo_mem l ws ws.length
  have hT : shortT l ws = joinB (putL l ws (whichTo l ws ws.length)) spB := rfl
  generalize whichTo l ws ws.length = is at hn hm hT ⊢
  have := scan_inv (n := is.length) (M := l.length + 1) (l := fun k i x => impl_shortened.l0 k ws l x is (is.length : Int) i) (at_ := fun i => putL l ws (is.take i)) (r := shortT l ws) (fun k i hi hM => ?_) (fun k _ => ?_) k (by omega)
  · simpa [putL] using this
  · obtain ⟨j, hj, hlt, hh⟩ := hm is[i] (List.getElem_mem hi)
    have hpl := putL_len l ws (is.take i)
    simp only [impl_shortened.l0]
    rw [if_pos (by omega), if_pos (by omega), if_pos (by omega), rd_get _ _ hi, if_pos (by omega), if_pos (by omega), impl_shortOf.val l _ hl k (by omega), Option.bind_some, if_pos (by omega), wrap_succ hi (by omega), take_snoc is i hi, putL_snoc]
  · have hpl := putL_len l ws is
    have hj : strings_Join.f (putL l ws is) (⟨#[32]⟩ : ByteArray) = some (shortT l ws) := by
      unfold strings_Join.f
      rw [if_pos ⟨⟨by omega, putL_size l ws is 1048576 hs hz⟩, by decide⟩, hT]
      rfl
    simp only [impl_shortened.l0]
    rw [if_neg (by omega), List.take_length, hj, Option.bind_some]

theorem spec_l02At.val (ws : List ByteArray) (l : List ISh) (hl : l.length ≤ 9223372036854775807) (hw : ws.length ≤ 1000000) (k : Nat) (hk : ws.length + (l.length + 1) < k) :
    spec_l02At.f k ws l (whichTo l ws ws.length) = some (putL l ws (whichTo l ws ws.length)) := by
  have hn := whichTo_len l ws ws.length
  unfold spec_l02At.f
  rw [Option.bind_some, if_pos (by rw [List.length_nil]; omega), List.nil_append]
  have hm := whichTo_mem l ws ws.length
  generalize whichTo l ws ws.length = is at hn hm ⊢
  have := scan_inv (n := is.length) (M := l.length + 1) (l := fun k i x => spec_l02At.l0 k ws l is x i) (at_ := fun i => putL l ws (is.take i)) (r := putL l ws is) (fun k i hi hM => ?_) (fun k _ => ?_) k (by omega)
  · simpa [putL] using this
  · obtain ⟨j, hj, hlt, hh⟩ := hm is[i] (List.getElem_mem hi)
    have hpl := putL_len l ws (is.take i)
    simp only [spec_l02At.l0]
    unfold hasAt at hh
    rw [← hj] at hh
    rw [if_pos (by omega), if_pos (by omega), rd_get _ _ hi, if_pos (by omega), if_pos (by omega), spec_l02Of.val l _ hl k (by omega), Option.bind_some, if_pos hh, if_pos (by omega), wrap_succ hi (by omega), take_snoc is i hi, putL_snoc]
  · simp only [spec_l02At.l0]
    rw [if_neg (by omega), List.take_length]

end Go.Proofs.YtiapaggkbhdnkaaGreatDoor.Q
