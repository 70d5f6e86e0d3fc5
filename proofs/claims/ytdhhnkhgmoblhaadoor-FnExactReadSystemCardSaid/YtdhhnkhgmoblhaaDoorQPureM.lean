-- Joined by joinmods.py out of: QpureLaw QpureMark QpureMarkS QpureSystemM QpureFit
import Derived.Test.YtdhhnkhgmoblhaaDoorBase
import Derived.Test.YtdhhnkhgmoblhaaDoorQLawStr
import Derived.Test.YtdhhnkhgmoblhaaDoorQpureSystem
import Derived.Test.YtdhhnkhgmoblhaaDoorQLawM
section
/- The laws' own helpers on rows of texts and of numbers: what they compute; no condition. -/
namespace Go.Proofs.YtdhhnkhgmoblhaaDoor.Q
open Go.RowKit Go.Proofs.YtdhhnkhgmoblhaaDoorW.PrintWords Go.Proofs.YtdhhnkhgmoblhaaDoor.Pure
set_option linter.unusedVariables false
set_option linter.unusedSimpArgs false



theorem laws_eqStringS.val (l m : List ByteArray) (hl : l.length ≤ 9223372036854775807) : laws_eqStringS.f (l.length + 1) l m = some (decide (l = m)) := by
  unfold laws_eqStringS.f
  by_cases h : l.length = m.length
  · rw [if_pos (by omega)]
    have := scan_all (n := l.length) (l := fun k i => laws_eqStringS.l0 k l m i) (p := fun i => decide (rdOf ByteArray.empty l (i : Nat) = rdOf ByteArray.empty m (i : Nat))) (b := true) (fun k i hi => ?_) (fun k => ?_) (l.length + 1) (by omega)
    · rw [all_eq_get l m h _ (fun i hi => by rw [rdOf_get _ _ _ hi, rdOf_get _ m i (by omega)]), Bool.and_true] at this
      exact this
    · simp only [laws_eqStringS.l0, bytes_eq, decide_eq_true_iff]
      rw [if_pos (by omega), if_pos (by omega), if_pos (by omega), wrap_succ hi (by omega)]
    · simp [laws_eqStringS.l0]
  · rw [if_neg (by omega), decide_eq_false (fun e => h (by rw [e]))]


end Go.Proofs.YtdhhnkhgmoblhaaDoor.Q
end
section
/- The laws' marks: what they write and what they hold; no condition. -/
namespace Go.Proofs.YtdhhnkhgmoblhaaDoor.Q
open Go.RowKit Go.Proofs.YtdhhnkhgmoblhaaDoorW.PrintWords Go.Proofs.YtdhhnkhgmoblhaaDoor.Pure
set_option linter.unusedVariables false
set_option linter.unusedSimpArgs false

/-- 1, 2, .., n. -/
def oneTo (n : Nat) : List Int := (List.range n).map fun (j : Nat) => ((j + 1 : Nat) : Int)
theorem oneTo_len (n : Nat) : (oneTo n).length = n := by simp [oneTo]
theorem oneTo_get (n i : Nat) (h : i < n) : rd (oneTo n) (i : Int) = ((i + 1 : Nat) : Int) := by
  rw [rd_get _ _ (by rw [oneTo_len]; exact h)]
  simp [oneTo]
theorem oneTo_step (xs : List Int) (i : Nat) (h : i < xs.length) : (oneTo i ++ xs.drop i).set i ((i + 1 : Nat) : Int) = oneTo (i + 1) ++ xs.drop (i + 1) := by
  rw [List.set_append_right _ _ (by rw [oneTo_len]; exact Nat.le_refl _), oneTo_len, Nat.sub_self, List.drop_eq_getElem_cons h, List.set_cons_zero]
  simp [oneTo, List.range_succ]

theorem strOfNums_one (x : Int) : (strOfNums [x]).size = 1 := by simp [strOfNums, ByteArray.size]
theorem laws_markText.ends : ∀ (m k : Nat) (x : Int) (s : ByteArray), m < k → x < 10 ^ m → x ≤ 9223372036854775807 → s.size + m + 1 ≤ 9223372036854775807 → ∃ t, laws_markText.l0 k x s = some t := by
  intro m
  induction m with
  | zero =>
    intro k x s hk hx hx2 hs
    obtain ⟨k, rfl⟩ : ∃ j, k = j + 1 := ⟨k - 1, by omega⟩
    simp only [laws_markText.l0]
    rw [if_neg (by omega), if_pos (by omega)]
    exact ⟨_, rfl⟩
  | succ m ih =>
    intro k x s hk hx hx2 hs
    obtain ⟨k, rfl⟩ : ∃ j, k = j + 1 := ⟨k - 1, by omega⟩
    simp only [laws_markText.l0, Option.bind_some]
    by_cases h0 : x > 0
    · rw [if_pos h0, strOfNums_one, if_pos (by omega)]
      have hd : Int.tdiv x 10 = x / 10 := Int.tdiv_eq_ediv_of_nonneg (by omega)
      rw [hd, wrap_id (n := x / 10) (by omega) (by omega)]
      refine ih k _ _ (by omega) ?_ (by omega) ?_
      · have : x < 10 ^ m * 10 := by rw [← Int.pow_succ]; exact hx
        generalize (10 : Int) ^ m = p at this ⊢
        omega
      · rw [ByteArray.size_append, strOfNums_one]; omega
    · rw [if_neg h0, if_pos (by omega)]
      exact ⟨_, rfl⟩
theorem laws_markText.some_ (k : Nat) (hk : 20 ≤ k) (x : Int) (hx : x ≤ 9223372036854775807) : ∃ t, laws_markText.f k x = some t := by
  unfold laws_markText.f
  by_cases h : x ≤ 0
  · rw [if_pos h]; exact ⟨_, rfl⟩
  · rw [if_neg h]
    exact laws_markText.ends 19 k x _ (by omega) (by omega) hx (by show (0 : Nat) + 19 + 1 ≤ _; omega)
theorem laws_markStringS.some_ (l : List ByteArray) (hl : l.length ≤ 4611686018427387904) (k : Nat) (hk : l.length + 21 < k) : ∃ m, laws_markStringS.f k l 1 = some (((l.length + 1 : Nat) : Int), m) := by
  have key : ∀ d i k (x : List ByteArray), i + d = l.length → x.length = l.length → d + 21 < k → ∃ m, laws_markStringS.l0 k x ((i + 1 : Nat) : Int) (i : Nat) = some (((l.length + 1 : Nat) : Int), m) := by
    intro d
    induction d with
    | zero =>
      intro i k x hi hx hk
      obtain ⟨k, rfl⟩ : ∃ j, k = j + 1 := ⟨k - 1, by omega⟩
      simp only [laws_markStringS.l0]
      rw [if_neg (by omega), show i = l.length by omega]
      exact ⟨_, rfl⟩
    | succ d ih =>
      intro i k x hi hx hk
      obtain ⟨k, rfl⟩ : ∃ j, k = j + 1 := ⟨k - 1, by omega⟩
      obtain ⟨t, ht⟩ := laws_markText.some_ k (by omega) ((i + 1 : Nat) : Int) (by omega)
      simp only [laws_markStringS.l0]
      rw [if_pos (by omega), ht]
      simp only [Option.bind_some]
      rw [if_pos (by omega), wrap_succ (i := i) (n := l.length) (by omega) (by omega), wrap_succ (i := i + 1) (n := l.length + 1) (by omega) (by omega)]
      exact ih (i + 1) k _ (by omega) (by simp [hx]) (by omega)
  exact key l.length 0 k l (by omega) rfl (by omega)
end Go.Proofs.YtdhhnkhgmoblhaaDoor.Q
end
section
/- The laws' marks on rows of texts. -/
namespace Go.Proofs.YtdhhnkhgmoblhaaDoor.Q
open Go.RowKit Go.Proofs.YtdhhnkhgmoblhaaDoorW.PrintWords Go.Proofs.YtdhhnkhgmoblhaaDoor.Pure
set_option linter.unusedVariables false

/-- The mark of a number. -/
noncomputable def markV (n : Int) : ByteArray := (laws_markText.f 20 n).getD ⟨#[]⟩
theorem markV_spec (n : Int) (hn : n ≤ 9223372036854775807) (k : Nat) (hk : 20 ≤ k) : laws_markText.f k n = some (markV n) := by
  obtain ⟨t, ht⟩ := laws_markText.some_ 20 (Nat.le_refl _) n hn
  have : markV n = t := by unfold markV; rw [ht]; rfl
  rw [this]
  exact at_rounds (laws_markText.mono n) hk ht
noncomputable def marksTo (n : Nat) : List ByteArray := (List.range n).map fun (j : Nat) => markV ((j + 1 : Nat) : Int)
theorem marksTo_len (n : Nat) : (marksTo n).length = n := by simp [marksTo]
theorem marksTo_get (n i : Nat) (h : i < n) : rdOf ByteArray.empty (marksTo n) (i : Int) = markV ((i + 1 : Nat) : Int) := by
  rw [rdOf_get _ _ _ (by rw [marksTo_len]; exact h)]
  simp [marksTo]
theorem marksTo_step (xs : List ByteArray) (i : Nat) (h : i < xs.length) : (marksTo i ++ xs.drop i).set i (markV ((i + 1 : Nat) : Int)) = marksTo (i + 1) ++ xs.drop (i + 1) := by
  rw [List.set_append_right _ _ (by rw [marksTo_len]; exact Nat.le_refl _), marksTo_len, Nat.sub_self, List.drop_eq_getElem_cons h, List.set_cons_zero]
  simp [marksTo, List.range_succ]
theorem laws_markStringS.val (l : List ByteArray) (hl : l.length ≤ 4611686018427387904) (k : Nat) (hk : l.length + 21 < k) : laws_markStringS.f k l 1 = some (((l.length + 1 : Nat) : Int), marksTo l.length) := by
  unfold laws_markStringS.f
  have := scan_inv (n := l.length) (M := 21) (l := fun k i (x : Int × List ByteArray) => laws_markStringS.l0 k x.2 x.1 i) (at_ := fun i => (((i + 1 : Nat) : Int), marksTo i ++ l.drop i)) (r := (((l.length + 1 : Nat) : Int), marksTo l.length)) (fun k i hi hM => ?_) (fun k hM => ?_) k (by omega)
  · simpa [marksTo] using this
  · have hlen : (marksTo i ++ l.drop i).length = l.length := by rw [List.length_append, marksTo_len, List.length_drop]; omega
    simp only [laws_markStringS.l0]
    rw [hlen, if_pos (by omega), markV_spec _ (by omega) k (by omega)]
    simp only [Option.bind_some]
    rw [if_pos (by omega), Int.toNat_natCast, marksTo_step l i hi, wrap_succ hi (by omega), wrap_succ (i := i + 1) (n := l.length + 1) (by omega) (by omega)]
  · have hlen : (marksTo l.length ++ l.drop l.length).length = l.length := by rw [List.length_append, marksTo_len, List.length_drop]; omega
    simp only [laws_markStringS.l0]
    rw [hlen, if_neg (by omega)]
    simp
theorem laws_heldStringS.val (n : Nat) (hl : n ≤ 4611686018427387904) (k : Nat) (hk : n + 21 < k) : laws_heldStringS.f k (marksTo n) 1 = some ((n + 1 : Nat) : Int) := by
  unfold laws_heldStringS.f
  have := scan_inv (n := n) (M := 21) (l := fun k i (x : Int) => laws_heldStringS.l0 k (marksTo n) x i) (at_ := fun i => ((i + 1 : Nat) : Int)) (r := ((n + 1 : Nat) : Int)) (fun k i hi hM => ?_) (fun k hM => ?_) k (by omega)
  · simpa using this
  · simp only [laws_heldStringS.l0]
    rw [marksTo_len, if_pos (by omega), if_pos (by omega), markV_spec _ (by omega) k (by omega), marksTo_get n i hi]
    simp only [Option.bind_some, if_true]
    rw [wrap_succ hi (by omega), wrap_succ (i := i + 1) (n := n + 1) (by omega) (by omega)]
  · simp only [laws_heldStringS.l0]
    rw [marksTo_len, if_neg (by omega)]
end Go.Proofs.YtdhhnkhgmoblhaaDoor.Q
end
section
/- The laws' marks on systems; no condition. -/
namespace Go.Proofs.YtdhhnkhgmoblhaaDoor.Q
open Go.RowKit Go.Proofs.YtdhhnkhgmoblhaaDoorW.PrintWords Go.Proofs.YtdhhnkhgmoblhaaDoor.Pure
set_option linter.unusedVariables false

def mSG (a : Int) (i : Nat) : SG := ⟨(a + 2 * i) % 256, IntKind.i16.wrap (a + 2 * i + 1)⟩
def mkSG (l : List SG) (a : Int) (k : Nat) : List SG := (List.range k).map (mSG a) ++ l.drop k
theorem mkSG_len (l : List SG) (a : Int) (k : Nat) (h : k ≤ l.length) : (mkSG l a k).length = l.length := by simp [mkSG]; omega
theorem mkSG_zero (l : List SG) (a : Int) : mkSG l a 0 = l := by simp [mkSG]
theorem mkSG_set (l : List SG) (a : Int) (k : Nat) (h : k < l.length) : (mkSG l a k).set k (mSG a k) = mkSG l a (k + 1) := by
  unfold mkSG
  rw [List.set_append_right _ _ (by simp), show k - ((List.range k).map (mSG a)).length = 0 by simp, List.drop_eq_getElem_cons h, List.set_cons_zero, List.range_succ, List.map_append]
  simp
theorem mkSG_get (l : List SG) (a : Int) (k : Nat) (h : k < l.length) : rd_T56 (mkSG l a l.length) (k : Nat) = mSG a k := by
  rw [rdSG_get _ k (by rw [mkSG_len l a _ (Nat.le_refl _)]; exact h)]
  unfold mkSG
  rw [List.getElem_append_left (by simpa using h)]
  simp
theorem laws_markSignS.val (l : List SG) (hl : l.length ≤ 2097152) (k : Nat) (hk : l.length < k) : laws_markSignS.f k l 1 = some (1 + 2 * (l.length : Int), mkSG l 1 l.length) := by
  unfold laws_markSignS.f
  have := scan_inv (n := l.length) (M := 0) (l := fun k i (x : Int × List SG) => laws_markSignS.l0 k x.2 x.1 i) (at_ := fun i => (1 + 2 * (i : Int), mkSG l 1 i)) (r := (1 + 2 * (l.length : Int), mkSG l 1 l.length)) (fun k i hi _ => ?_) (fun k _ => ?_) k (by omega)
  · simpa [mkSG_zero] using this
  · have hlen := mkSG_len l 1 i (by omega)
    simp only [laws_markSignS.l0]
    rw [if_pos (by rw [hlen]; omega), if_pos (by omega), Option.bind_some, wrap_id (n := 1 + 2 * (i : Int) + 1) (by omega) (by omega), wrap_id (n := 1 + 2 * (i : Int) + 1 + 1) (by omega) (by omega), wrap_succ hi (by omega), Int.toNat_natCast,
      List.set_set, rdSG_get _ i (by rw [List.length_set, hlen]; exact hi), List.getElem_set_self (by rw [List.length_set, hlen]; exact hi)]
    have e := mkSG_set l 1 i hi
    unfold mSG at e
    rw [e, show (1 : Int) + 2 * (i : Int) + 1 + 1 = 1 + 2 * ((i + 1 : Nat) : Int) by omega]
  · have hlen := mkSG_len l 1 l.length (Nat.le_refl _)
    simp only [laws_markSignS.l0]
    rw [if_neg (by rw [hlen]; omega)]
theorem laws_heldSignS.val (l : List SG) (hl : l.length ≤ 2097152) (k : Nat) (hk : l.length < k) : laws_heldSignS.f k (mkSG l 1 l.length) 1 = some (1 + 2 * (l.length : Int)) := by
  unfold laws_heldSignS.f
  have hlen := mkSG_len l 1 l.length (Nat.le_refl _)
  have := scan_inv (n := l.length) (M := 0) (l := fun k i (x : Int) => laws_heldSignS.l0 k (mkSG l 1 l.length) x i) (at_ := fun i => 1 + 2 * (i : Int)) (r := 1 + 2 * (l.length : Int)) (fun k i hi _ => ?_) (fun k _ => ?_) k (by omega)
  · simpa using this
  · simp only [laws_heldSignS.l0]
    rw [if_pos (by rw [hlen]; omega), if_pos (by omega), mkSG_get l 1 i hi, wrap_id (n := 1 + 2 * (i : Int) + 1) (by omega) (by omega), wrap_id (n := 1 + 2 * (i : Int) + 1 + 1) (by omega) (by omega), wrap_succ hi (by omega), if_pos (show (mSG 1 i).f0 = (1 + 2 * (i : Int)) % 256 from rfl), if_pos (show (mSG 1 i).f1 = IntKind.i16.wrap (1 + 2 * (i : Int) + 1) from rfl), show (1 : Int) + 2 * (i : Int) + 1 + 1 = 1 + 2 * ((i + 1 : Nat) : Int) by omega]
  · simp only [laws_heldSignS.l0]
    rw [if_neg (by rw [hlen]; omega)]
theorem laws_markSystem.val (a : List SG) (b : List MP) (ha : a.length ≤ 2097152) (hb : b.length ≤ 2097152) (k : Nat) (hka : a.length < k) :
    laws_markSystem.f k a b 1 = some (1 + 2 * (a.length : Int) + 2 * (b.length : Int), mkSG a 1 a.length, mkA2 b (1 + 2 * (a.length : Int)) b.length) := by
  unfold laws_markSystem.f
  rw [laws_markSignS.val a ha k hka, Option.bind_some]
  unfold laws_markByteA2S.f
  simp only []
  rw [if_pos (by omega), Option.bind_some]
theorem laws_heldSystem.val (a : List SG) (b : List MP) (ha : a.length ≤ 2097152) (hb : b.length ≤ 2097152) (k : Nat) (hka : a.length < k) :
    laws_heldSystem.f k (mkSG a 1 a.length) (mkA2 b (1 + 2 * (a.length : Int)) b.length) 1 = some (1 + 2 * (a.length : Int) + 2 * (b.length : Int)) := by
  unfold laws_heldSystem.f
  rw [laws_heldSignS.val a ha k hka, Option.bind_some, if_neg (by omega)]
  unfold laws_heldByteA2S.f
  have hl := mkA2_len b (1 + 2 * (a.length : Int)) b.length (Nat.le_refl _)
  have he : mkA2 (mkA2 b (1 + 2 * (a.length : Int)) b.length) (1 + 2 * (a.length : Int)) b.length = mkA2 b (1 + 2 * (a.length : Int)) b.length := by
    unfold mkA2
    simp
  rw [hl, he, if_pos ⟨by omega, rfl⟩, Option.bind_some, if_neg (by omega)]
end Go.Proofs.YtdhhnkhgmoblhaaDoor.Q
end
section
/- A sign's value fits in its kind; no condition. -/
namespace Go.Proofs.YtdhhnkhgmoblhaaDoor.Q
open Go.RowKit Go.Proofs.YtdhhnkhgmoblhaaDoorW.PrintWords Go.Proofs.YtdhhnkhgmoblhaaDoor.Pure
set_option linter.unusedVariables false

theorem toS_fit (a : List LSG) (h : ∀ z ∈ a, (Lit.int .u8 z.f0).wf = true ∧ (Lit.int .i16 z.f1).wf = true) : ((toS a).all (fun x => decide (-32768 ≤ x.f1) && decide (x.f1 ≤ 32767))) = true := by
  rw [List.all_eq_true]
  intro x hx
  obtain ⟨y, hy, rfl⟩ := List.mem_map.1 hx
  have := (h y hy).2
  have e1 : IntKind.i16.min = -32768 := rfl
  have e2 : IntKind.i16.max = 32767 := rfl
  simp only [Lit.wf] at this
  simp at this ⊢
  omega
end Go.Proofs.YtdhhnkhgmoblhaaDoor.Q
end
