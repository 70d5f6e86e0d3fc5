/- The laws' marks on systems; no condition. -/
import Derived.Test.YtcaidohboacokaaQpureSystem
import Derived.Test.YtcaidohboacokaaQLawM
namespace Go.Proofs.Ytcaidohboacokaa.Q
open Go.RowKit Go.Proofs.YtcaidohboacokaaW.PrintWords Go.Proofs.Ytcaidohboacokaa.Pure
set_option linter.unusedVariables false

def mSG (a : Int) (i : Nat) : SG := ⟨(a + 2 * i) % 256, IntKind.i16.wrap (a + 2 * i + 1)⟩
def mkSG (l : List SG) (a : Int) (k : Nat) : List SG := (List.range k).map (mSG a) ++ l.drop k
theorem mkSG_len (l : List SG) (a : Int) (k : Nat) (h : k ≤ l.length) : (mkSG l a k).length = l.length := by simp [mkSG]; omega
theorem mkSG_zero (l : List SG) (a : Int) : mkSG l a 0 = l := by simp [mkSG]
theorem mkSG_set (l : List SG) (a : Int) (k : Nat) (h : k < l.length) : (mkSG l a k).set k (mSG a k) = mkSG l a (k + 1) := by
  unfold mkSG
  rw [List.set_append_right _ _ (by simp), show k - ((List.range k).map (mSG a)).length = 0 by simp, List.drop_eq_getElem_cons h, List.set_cons_zero, List.range_succ, List.map_append]
  simp
theorem mkSG_get (l : List SG) (a : Int) (k : Nat) (h : k < l.length) : rd_T58 (mkSG l a l.length) (k : Nat) = mSG a k := by
  rw [rdSG_get _ k (by rw [mkSG_len l a _ (Nat.le_refl _)]; exact h)]
  unfold mkSG
  rw [List.getElem_append_left (by simpa using h)]
  simp
theorem laws_markSignS.val (l : List SG) (hl : l.length ≤ 2097152) (k : Nat) (hk : l.length < k) : laws_markSignS.f k l 1 = some (1 + 2 * (l.length : Int), mkSG l 1 l.length) := by
  unfold laws_markSignS.f
  have := scan_inv (n := l.length) (M := 0) (l := fun k i (x : Int × List SG) => laws_markSignS.l0 k x.2 x.1 i) (at_ := fun i => (1 + 2 * (i : Int), mkSG l 1 i)) (r := (1 + 2 * (l.length : Int), mkSG l 1 l.length)) (fun k i hi _ => ?_) (fun k _ => ?_) k (by omega)
  · simpa [mkSG_zero] using this
  · have hlen := mkSG_len l 1 i (by omega)
    simp only [laws_markSignS.l0]
    rw [if_pos (by rw [hlen]; omega), if_pos (by omega), Option.bind_some, wrap_id (n := 1 + 2 * (i : Int) + 1) (by omega) (by omega), wrap_id (n := 1 + 2 * (i : Int) + 1 + 1) (by omega) (by omega), wrap_succ hi (by omega), Int.toNat_natCast,
      List.set_set, rdSG_get _ i (by rw [List.length_set, hlen]; exact hi), List.getElem_set_self (by rw [List.length_set, hlen]; exact hi)]
    have e := mkSG_set l 1 i hi
    unfold mSG at e
    rw [e, show (1 : Int) + 2 * (i : Int) + 1 + 1 = 1 + 2 * ((i + 1 : Nat) : Int) by omega]
  · have hlen := mkSG_len l 1 l.length (Nat.le_refl _)
    simp only [laws_markSignS.l0]
    rw [if_neg (by rw [hlen]; omega)]
theorem laws_heldSignS.val (l : List SG) (hl : l.length ≤ 2097152) (k : Nat) (hk : l.length < k) : laws_heldSignS.f k (mkSG l 1 l.length) 1 = some (1 + 2 * (l.length : Int)) := by
  unfold laws_heldSignS.f
  have hlen := mkSG_len l 1 l.length (Nat.le_refl _)
  have := scan_inv (n := l.length) (M := 0) (l := fun k i (x : Int) => laws_heldSignS.l0 k (mkSG l 1 l.length) x i) (at_ := fun i => 1 + 2 * (i : Int)) (r := 1 + 2 * (l.length : Int)) (fun k i hi _ => ?_) (fun k _ => ?_) k (by omega)
  · simpa using this
  · simp only [laws_heldSignS.l0]
    rw [if_pos (by rw [hlen]; omega), if_pos (by omega), mkSG_get l 1 i hi, wrap_id (n := 1 + 2 * (i : Int) + 1) (by omega) (by omega), wrap_id (n := 1 + 2 * (i : Int) + 1 + 1) (by omega) (by omega), wrap_succ hi (by omega), if_pos (show (mSG 1 i).f0 = (1 + 2 * (i : Int)) % 256 from rfl), if_pos (show (mSG 1 i).f1 = IntKind.i16.wrap (1 + 2 * (i : Int) + 1) from rfl), show (1 : Int) + 2 * (i : Int) + 1 + 1 = 1 + 2 * ((i + 1 : Nat) : Int) by omega]
  · simp only [laws_heldSignS.l0]
    rw [if_neg (by rw [hlen]; omega)]
theorem laws_markSystem.val (a : List SG) (b : List MP) (ha : a.length ≤ 2097152) (hb : b.length ≤ 2097152) (k : Nat) (hka : a.length < k) :
    laws_markSystem.f k a b 1 = some (1 + 2 * (a.length : Int) + 2 * (b.length : Int), mkSG a 1 a.length, mkA2 b (1 + 2 * (a.length : Int)) b.length) := by
  unfold laws_markSystem.f
  rw [laws_markSignS.val a ha k hka, Option.bind_some]
  unfold laws_markByteA2S.f
  simp only []
  rw [if_pos (by omega), Option.bind_some]
theorem laws_heldSystem.val (a : List SG) (b : List MP) (ha : a.length ≤ 2097152) (hb : b.length ≤ 2097152) (k : Nat) (hka : a.length < k) :
    laws_heldSystem.f k (mkSG a 1 a.length) (mkA2 b (1 + 2 * (a.length : Int)) b.length) 1 = some (1 + 2 * (a.length : Int) + 2 * (b.length : Int)) := by
  unfold laws_heldSystem.f
  rw [laws_heldSignS.val a ha k hka, Option.bind_some, if_neg (by omega)]
  unfold laws_heldByteA2S.f
  have hl := mkA2_len b (1 + 2 * (a.length : Int)) b.length (Nat.le_refl _)
  have he : mkA2 (mkA2 b (1 + 2 * (a.length : Int)) b.length) (1 + 2 * (a.length : Int)) b.length = mkA2 b (1 + 2 * (a.length : Int)) b.length := by
    unfold mkA2
    simp
  rw [hl, he, if_pos ⟨by omega, rfl⟩, Option.bind_some, if_neg (by omega)]
end Go.Proofs.Ytcaidohboacokaa.Q
