/- The law ReadSystem holds. -/
import Derived.Test.YtdhhnkhgmoblhaaDoorQpureRS3
import Derived.Test.YtdhhnkhgmoblhaaDoorQspecReadSystem
import Derived.Test.YtdhhnkhgmoblhaaDoorQimplReadSystem
import Derived.Test.YtdhhnkhgmoblhaaDoorQlawsFnExactReadSystem
import Derived.Test.YtdhhnkhgmoblhaaDoorQPureM
namespace Go.Proofs.YtdhhnkhgmoblhaaDoor.Q
open Go.RowKit Go.Proofs.YtdhhnkhgmoblhaaDoorW.PrintWords Go.Proofs.YtdhhnkhgmoblhaaDoorW.PrintLast Go.Proofs.YtdhhnkhgmoblhaaDoorW.PrintMore
open Go.Proofs.YtdhhnkhgmoblhaaDoor.Pure Go.Lib
set_option linter.unusedVariables false
set_option linter.unusedSimpArgs false

def errR : List SG × List MP × Int := ([], [], 5)
def finR (s : List SG) (m : List MP) : List SG × List MP × Int := if okB s m = true then (s, m, 0) else errR
def outR (o : Option (List SG × List MP)) : List SG × List MP × Int := match o with | some p => (p.1, p.2, 0) | none => errR
def pairS (s : List SG) (acc : List MP) (l : List (List UInt8)) : List SG × List MP × Int := match allM mpS l with | some m => finR s (acc ++ m) | none => errR

theorem two_of {w : List UInt8} (h : w.length = 2) : ∃ a b, w = [a, b] := by
  rcases w with _ | ⟨a, _ | ⟨b, _ | ⟨c, t⟩⟩⟩
  · cases h
  · cases h
  · exact ⟨a, b, rfl⟩
  · simp at h
theorem mp_none {w : List UInt8} (h : ¬ w.length = 2) : mpS w = none := by
  unfold mpS
  split
  · exact absurd rfl h
  · rfl
theorem rd_mk (L : List (List UInt8)) (i : Nat) (h : i < L.length) : rdOf ByteArray.empty (L.map mkB) (i : Int) = mkB L[i] := by
  rw [rdOf_get _ _ _ (by simpa using h), List.getElem_map]
theorem spec_l1_val (s : List SG) (hs : s.length ≤ 1048576) (hf : ∀ x ∈ s, okV x) (L : List (List UInt8)) (hL : L.length ≤ 1048576) : ∀ d i k (acc : List MP), i + d = L.length → d < k → acc.length ≤ i →
    spec_ReadSystem.l1 k (L.map mkB) (i : Nat) s acc = some (pairS s acc (L.drop i)) := by
  intro d
  induction d with
  | zero =>
    intro i k acc hi hk ha
    obtain ⟨k, rfl⟩ : ∃ m, k = m + 1 := ⟨k - 1, by omega⟩
    obtain rfl : i = L.length := by omega
    have hv : spec_l03Ok.f s acc = some (okB s acc) := by unfold spec_l03Ok.f; exact if_pos ⟨hs, by omega, fit_all hf⟩
    rw [spec_ReadSystem.l1, List.length_map, if_neg (by omega), hv, Option.bind_some, List.drop_length]
    unfold pairS finR errR
    simp only [allM, List.append_nil]
    split <;> rfl
  | succ d ih =>
    intro i k acc hi hk ha
    obtain ⟨k, rfl⟩ : ∃ m, k = m + 1 := ⟨k - 1, by omega⟩
    have hlt : i < L.length := by omega
    rw [spec_ReadSystem.l1, List.length_map, if_pos (by omega), if_pos (by omega), rd_mk L i hlt, mk_size, wrap_succ hlt (by omega), List.drop_eq_getElem_cons hlt]
    by_cases h2 : L[i].length = 2
    · obtain ⟨a, b, e⟩ : ∃ a b, L[i] = [a, b] := two_of h2
      have e0 : bt (mkB L[i]) 0 = (a.toNat : Int) := by rw [e]; exact mk_bt [a, b] 0 (by simp)
      have e1 : bt (mkB L[i]) 1 = (b.toNat : Int) := by rw [e]; exact mk_bt [a, b] 1 (by simp)
      rw [if_pos (by omega), if_pos (by omega), if_pos (by omega), if_pos (by omega), e0, e1, ih (i + 1) k _ (by omega) (by omega) (by rw [List.length_append]; simp; omega)]
      unfold pairS
      rw [allM_cons_some mpS L[i] ⟨a.toNat, b.toNat⟩ _ (by rw [e]; rfl)]
      cases allM mpS (L.drop (i + 1)) with
      | none => rfl
      | some m => simp only [Option.map_some, List.append_assoc, List.singleton_append]
    · rw [if_neg (by omega)]
      unfold pairS
      rw [allM_cons_none mpS L[i] _ (mp_none h2)]
      rfl

def halfR (B : List UInt8) (s : List SG) : List SG × List MP × Int := pairS s [] (if B = [] then [] else cutAt 32 [] B)
theorem spec_l0_val (A B : List UInt8) (hAB : A.length + B.length + 1 ≤ 1048576) (L : List (List UInt8)) (hL : L = cutAt 32 [] A) : ∀ d i k (acc : List SG), i + d = L.length → d + 4000000 < k → acc.length ≤ i → (∀ x ∈ acc, okV x) →
    spec_ReadSystem.l0 k [mkB A, mkB B] (L.map mkB) (i : Nat) acc = some (match allM sgS (L.drop i) with | some s => halfR B (acc ++ s) | none => errR) := by
  have hl := cutAt_len 32 A []
  rw [← hL] at hl
  have hB := cutAt_len 32 B []
  intro d
  induction d with
  | zero =>
    intro i k acc hi hk ha hf
    obtain ⟨k, rfl⟩ : ∃ m, k = m + 1 := ⟨k - 1, by omega⟩
    obtain rfl : i = L.length := by omega
    have e1 : rdOf ByteArray.empty [mkB A, mkB B] 1 = mkB B := rfl
    rw [spec_ReadSystem.l0, List.length_map, if_neg (by omega), if_pos (by simp), e1, mk_toList, List.drop_length]
    simp only [allM, List.append_nil]
    unfold halfR
    obtain ⟨k, rfl⟩ : ∃ m, k = m + 1 := ⟨k - 1, by omega⟩
    by_cases h0 : B = []
    · rw [if_pos h0, if_pos h0, spec_ReadSystem.j1]
      exact spec_l1_val acc (by omega) hf [] (by simp) 0 0 k [] (by simp) (by omega) (by simp)
    · rw [if_neg h0, if_neg h0, show spec_l01Split.f (k + 1) (mkB B) 32 = _ from spec_l01Split.val (mkB B) 32 (by rw [mk_size]; omega) (k + 1) (by rw [mk_size]; omega), Option.bind_some, mk_data, spec_ReadSystem.j1]
      exact spec_l1_val acc (by omega) hf (cutAt 32 [] B) (by omega) (cutAt 32 [] B).length 0 k [] (by omega) (by omega) (by simp)
  | succ d ih =>
    intro i k acc hi hk ha hf
    obtain ⟨k, rfl⟩ : ∃ m, k = m + 1 := ⟨k - 1, by omega⟩
    have hlt : i < L.length := by omega
    rw [spec_ReadSystem.l0, List.length_map, if_pos (by omega), if_pos (by omega), rd_mk L i hlt, mk_size, wrap_succ hlt (by omega), List.drop_eq_getElem_cons hlt]
    cases e : L[i] with
    | nil =>
      rw [if_pos (by simp), allM_cons_none sgS [] _ rfl]
      rfl
    | cons c r =>
      by_cases hr : r = []
      · rw [hr, if_pos (by simp), allM_cons_none sgS [c] _ (by rw [sgS]; unfold numL; rw [if_pos (.inl rfl)]; rfl)]
        rfl
      have hrl := List.length_pos_iff.2 hr
      rw [if_neg (by rw [List.length_cons]; omega), if_pos (by rw [List.length_cons]; omega), mk_tail' c r, spec_l01Number.val r k (by omega), Option.bind_some]
      unfold numR
      cases hn : numL r with
      | none =>
        rw [if_neg (by simp), allM_cons_none sgS (c :: r) _ (by rw [sgS, hn]; rfl)]
        rfl
      | some n =>
        simp only
        rw [if_pos trivial]
        by_cases h5 : n ≤ 5000
        · have e0 : bt (mkB (c :: r)) 0 = (c.toNat : Int) := mk_bt (c :: r) 0 (by simp)
          rw [if_neg (by omega), if_pos (by simp), if_pos (by omega), e0, wrap16 _ (by omega) (by omega), ih (i + 1) k _ (by omega) (by omega) (by rw [List.length_append]; simp; omega) (fun x hx => by
            rcases List.mem_append.1 hx with hx | hx
            · exact hf x hx
            · rw [List.mem_singleton.1 hx]; exact ⟨by dsimp only; omega, by dsimp only; omega⟩)]
          rw [allM_cons_some sgS (c :: r) ⟨c.toNat, n⟩ _ (by rw [sgS, hn, Option.bind_some, if_pos h5])]
          cases allM sgS (L.drop (i + 1)) with
          | none => rfl
          | some m => simp only [Option.map_some, List.append_assoc, List.singleton_append]
        · rw [if_pos (by omega), allM_cons_none sgS (c :: r) _ (by rw [sgS, hn, Option.bind_some, if_neg h5])]
          rfl
theorem spec_ReadSystem.val (a : ByteArray) (ha : a.size ≤ 1048576) (k : Nat) (hk : 6000000 ≤ k) : spec_ReadSystem.f k a = some (outR (specRS a.data.toList)) := by
  unfold spec_ReadSystem.f specRS
  have hj := join_cutAt 59 a.data.toList []
  have hsp := spec_l01Split.val a 59 ha k (by omega)
  rw [show spec_l01Split.f k a 59 = _ from hsp, Option.bind_some]
  generalize cutAt 59 [] a.data.toList = H at hj
  rcases H with _ | ⟨A, _ | ⟨B, _ | ⟨C, H⟩⟩⟩
  · rw [if_neg (by simp)]; rfl
  · rw [if_neg (by simp)]; rfl
  · have hl : A.length + B.length + 1 = a.size := by
      have := congrArg List.length hj
      rw [join_cons2, join_one] at this
      simp only [List.length_append, List.length_cons, List.length_nil, data_length] at this
      omega
    have e0 : rdOf ByteArray.empty [mkB A, mkB B] 0 = mkB A := rfl
    have hA := cutAt_len 32 A []
    rw [if_pos (by simp), if_pos (by simp)]
    show ((spec_l01Split.f k (rdOf ByteArray.empty [mkB A, mkB B] 0) 32).bind fun t488 => _) = _
    rw [e0, show spec_l01Split.f k (mkB A) 32 = _ from spec_l01Split.val (mkB A) 32 (by rw [mk_size]; omega) k (by rw [mk_size]; omega), Option.bind_some, mk_data]
    have := spec_l0_val A B (by omega) (cutAt 32 [] A) rfl (cutAt 32 [] A).length 0 k [] (by omega) (by omega) (by simp) (fun x hx => by cases hx)
    rw [List.drop_zero] at this
    rw [List.map_cons, List.map_cons, List.map_nil]
    refine Eq.trans this ?_
    congr 1
    simp only
    cases allM sgS (cutAt 32 [] A) with
    | none => rfl
    | some s =>
      simp only [List.nil_append, Option.bind_some]
      unfold halfR pairS
      cases allM mpS (if B = [] then [] else cutAt 32 [] B) with
      | none => rfl
      | some m =>
        simp only [List.nil_append, Option.bind_some]
        unfold finR
        by_cases h : okB s m = true
        · rw [if_pos h, if_pos h]; rfl
        · rw [if_neg h, if_neg h]; rfl
  · rw [if_neg (by simp; omega)]
    rfl

/-! ### the program -/
def finI (t : List UInt8) (s : List SG) (m : List MP) : List SG × List MP × Int := if t ≠ [] ∧ (textOf s m).data.toList = t then (s, m, 0) else errR
def pairI (t : List UInt8) (s : List SG) (acc : List MP) (l : List (List UInt8)) : List SG × List MP × Int := match allM mpS l with | some m => finI t s (acc ++ m) | none => errR
theorem toList_data (a : ByteArray) : a.toList = a.data.toList := ByteArray.toList_eq a
theorem impl_l1_val (a : ByteArray) (s : List SG) (hs : s.length ≤ 1048576) (hf : ∀ x ∈ s, okV x) (L : List (List UInt8)) (hL : L.length ≤ 1048576) : ∀ d i k (acc : List MP), i + d = L.length → d < k → acc.length ≤ i →
    impl_ReadSystem.l1 k a (L.map mkB) (L.length : Int) (i : Nat) s acc = some (pairI a.data.toList s acc (L.drop i)) := by
  intro d
  induction d with
  | zero =>
    intro i k acc hi hk ha
    obtain ⟨k, rfl⟩ : ∃ m, k = m + 1 := ⟨k - 1, by omega⟩
    obtain rfl : i = L.length := by omega
    have hv : impl_SystemText.f s acc = some (textOf s acc) := by unfold impl_SystemText.f spec_SystemText.f; exact if_pos ⟨hs, by omega, fit_all hf⟩
    rw [impl_ReadSystem.l1, if_neg (by omega), hv, Option.bind_some, List.drop_length, toList_data, toList_data]
    unfold pairI finI errR
    simp only [allM, List.append_nil]
    by_cases h0 : a.data.toList = []
    · rw [if_pos h0, if_neg (fun h => h.1 h0)]
    · rw [if_neg h0]
      by_cases h1 : (textOf s acc).data.toList = a.data.toList
      · rw [if_pos h1, if_pos ⟨h0, h1⟩]
      · rw [if_neg h1, if_neg (fun h => h1 h.2)]
  | succ d ih =>
    intro i k acc hi hk ha
    obtain ⟨k, rfl⟩ : ∃ m, k = m + 1 := ⟨k - 1, by omega⟩
    have hlt : i < L.length := by omega
    rw [impl_ReadSystem.l1, List.length_map, if_pos (by omega), if_pos (by omega), if_pos (by omega), rd_mk L i hlt, mk_size, wrap_succ hlt (by omega), List.drop_eq_getElem_cons hlt]
    by_cases h2 : L[i].length = 2
    · obtain ⟨b, c, e⟩ : ∃ b c, L[i] = [b, c] := two_of h2
      have e0 : bt (mkB L[i]) 0 = (b.toNat : Int) := by rw [e]; exact mk_bt [b, c] 0 (by simp)
      have e1 : bt (mkB L[i]) 1 = (c.toNat : Int) := by rw [e]; exact mk_bt [b, c] 1 (by simp)
      rw [if_pos (by omega), if_pos (by omega), if_pos (by omega), if_pos (by omega), e0, e1, ih (i + 1) k _ (by omega) (by omega) (by rw [List.length_append]; simp; omega)]
      unfold pairI
      rw [allM_cons_some mpS L[i] ⟨b.toNat, c.toNat⟩ _ (by rw [e]; rfl)]
      cases allM mpS (L.drop (i + 1)) with
      | none => rfl
      | some m => simp only [Option.map_some, List.append_assoc, List.singleton_append]
    · rw [if_neg (by omega)]
      unfold pairI
      rw [allM_cons_none mpS L[i] _ (mp_none h2)]
      rfl
theorem numI_range {r : List UInt8} {n : Int} (h : numI r = some n) : 0 ≤ n ∧ n ≤ 5000 := by
  unfold numI at h
  split at h
  · split at h
    · rename_i hc
      cases h
      exact hc.2
    · cases h
  · cases h
theorem numV_numI (r : List UInt8) : numV r 5000 = match numI r with | some n => (n, true) | none => (0, false) := by
  unfold numV numI
  cases parseIntB 64 r with
  | ok n =>
    dsimp only
    by_cases h : itoa n = r ∧ 0 ≤ n ∧ n ≤ 5000
    · rw [if_pos h, if_pos h]
    · rw [if_neg h, if_neg h]
  | _ => rfl
theorem impl_l0_val (a : ByteArray) (R : List UInt8) (hR : R.length ≤ 1048576) (L : List (List UInt8)) (hL : L.length ≤ 1048576) (hne : ∀ w ∈ L, w ≠ [] ∧ w.length ≤ 1048576) : ∀ d i k (acc : List SG), i + d = L.length → d + 2000000 < k → acc.length ≤ i → (∀ x ∈ acc, okV x) →
    impl_ReadSystem.l0 k a (mkB R) (L.map mkB) (L.length : Int) (i : Nat) acc = some (match allM sgI (L.drop i) with | some s => pairI a.data.toList (acc ++ s) [] (fieldsD R) | none => errR) := by
  have hRl := fieldsD_len R
  intro d
  induction d with
  | zero =>
    intro i k acc hi hk ha hf
    obtain ⟨k, rfl⟩ : ∃ m, k = m + 1 := ⟨k - 1, by omega⟩
    obtain rfl : i = L.length := by omega
    have hfs : strings_Fields.f (mkB R) = some ((fieldsD R).map mkB) := by unfold strings_Fields.f; rw [if_pos (by rw [mk_size]; omega)]; rfl
    rw [impl_ReadSystem.l0, if_neg (by omega), hfs, Option.bind_some, List.drop_length, List.length_map]
    simp only [allM, List.append_nil]
    have := impl_l1_val a acc (by omega) hf (fieldsD R) (by omega) (fieldsD R).length 0 k [] (by omega) (by omega) (by simp)
    rw [List.drop_zero] at this
    exact this
  | succ d ih =>
    intro i k acc hi hk ha hf
    obtain ⟨k, rfl⟩ : ∃ m, k = m + 1 := ⟨k - 1, by omega⟩
    have hlt : i < L.length := by omega
    have hw := hne L[i] (List.getElem_mem hlt)
    rw [impl_ReadSystem.l0, List.length_map, if_pos (by omega), if_pos (by omega), if_pos (by omega), rd_mk L i hlt, mk_size, wrap_succ hlt (by omega), List.drop_eq_getElem_cons hlt]
    cases e : L[i] with
    | nil => exact absurd e hw.1
    | cons c r =>
      have hz := hw.2
      rw [e] at hz
      have hnf : impl_number.f (mkB r) 5000 = some (numV r 5000) := by unfold impl_number.f; rw [if_pos (by rw [mk_size]; simp at hz; omega)]; rfl
      rw [if_pos (by rw [List.length_cons]; omega), mk_tail' c r, hnf, Option.bind_some, numV_numI]
      cases hn : numI r with
      | none =>
        rw [if_neg (by simp), allM_cons_none sgI (c :: r) _ (by rw [sgI, hn]; rfl)]
        rfl
      | some n =>
        have hr := numI_range hn
        have e0 : bt (mkB (c :: r)) 0 = (c.toNat : Int) := mk_bt (c :: r) 0 (by simp)
        simp only
        rw [if_pos trivial, if_pos (by simp), if_pos (by omega), e0, wrap16 _ hr.1 hr.2, ih (i + 1) k _ (by omega) (by omega) (by rw [List.length_append]; simp; omega) (fun x hx => by
            rcases List.mem_append.1 hx with hx | hx
            · exact hf x hx
            · rw [List.mem_singleton.1 hx]; exact hr)]
        rw [allM_cons_some sgI (c :: r) ⟨c.toNat, n⟩ _ (by rw [sgI, hn, Option.bind_some])]
        cases allM sgI (L.drop (i + 1)) with
        | none => rfl
        | some m => simp only [Option.map_some, List.append_assoc, List.singleton_append]
theorem impl_ReadSystem.val (a : ByteArray) (ha : a.size ≤ 1048576) (k : Nat) (hk : 6000000 ≤ k) : impl_ReadSystem.f k a = some (outR (implRS a.data.toList)) := by
  unfold impl_ReadSystem.f implRS
  have hc : strings_Cut.f a ⟨#[59]⟩ = some (mkB (Lib.cut a.data.toList [59]).1, mkB (Lib.cut a.data.toList [59]).2.1, (Lib.cut a.data.toList [59]).2.2) := by
    unfold strings_Cut.f
    rw [if_pos (by omega)]
    rfl
  have hcl : (Lib.cut a.data.toList [59]).1.length ≤ a.size ∧ (Lib.cut a.data.toList [59]).2.1.length ≤ a.size := by
    have hd := data_length a
    unfold Lib.cut
    split
    · dsimp only
      exact ⟨by rw [List.length_take]; omega, by rw [List.length_drop]; omega⟩
    · dsimp only
      exact ⟨by omega, by simp⟩
  rw [hc, Option.bind_some]
  generalize (Lib.cut a.data.toList [59]).1 = A at hcl
  generalize (Lib.cut a.data.toList [59]).2.1 = R at hcl
  have hfs : strings_Fields.f (mkB A) = some ((fieldsD A).map mkB) := by unfold strings_Fields.f; rw [if_pos (by rw [mk_size]; omega)]; rfl
  have hAl := fieldsD_len A
  simp only
  rw [hfs, Option.bind_some, List.length_map]
  have := impl_l0_val a R (by omega) (fieldsD A) (by omega) (fun w hw => by have := fieldsD_mem A w hw; exact ⟨this.1, by omega⟩) (fieldsD A).length 0 k [] (by omega) (by omega) (by simp) (fun x hx => by cases hx)
  rw [List.drop_zero] at this
  refine Eq.trans this ?_
  congr 1
  cases allM sgI (fieldsD A) with
  | none => rfl
  | some s =>
    simp only [List.nil_append, Option.bind_some]
    unfold pairI
    cases allM mpS (fieldsD R) with
    | none => rfl
    | some m =>
      simp only [List.nil_append, Option.bind_some]
      unfold finI
      by_cases h : a.data.toList ≠ [] ∧ (textOf s m).data.toList = a.data.toList
      · rw [if_pos h, if_pos h]; rfl
      · rw [if_neg h, if_neg h]; rfl

theorem outR_len (t : List UInt8) : (outR (specRS t)).1.length ≤ 8 ∧ (outR (specRS t)).2.1.length ≤ 8 := by
  cases h : specRS t with
  | none => exact ⟨by decide, by decide⟩
  | some p =>
    obtain ⟨s, m⟩ := p
    have hf := fineS_of_ok (specRS_back h).1
    exact ⟨hf.1, hf.2.1⟩
theorem laws_FnExactReadSystem.pure (a : ByteArray) (k : Nat) (hk : 8000000 ≤ k) : laws_FnExactReadSystem.f k a = some true := by
  obtain ⟨k, rfl⟩ : ∃ j, k = j + 1 := ⟨k - 1, by omega⟩
  obtain ⟨k, rfl⟩ : ∃ j, k = j + 1 := ⟨k - 1, by omega⟩
  unfold laws_FnExactReadSystem.f
  by_cases h0 : (a.size : Int) > 1048576
  · rw [if_pos h0]
  rw [if_neg h0]
  have S := fun k (h : 6000000 ≤ k) => spec_ReadSystem.val a (by omega) k h
  have I := fun k (h : 6000000 ≤ k) => (impl_ReadSystem.val a (by omega) k h).trans (by rw [← readSys_same])
  have hp := outR_len a.data.toList
  generalize outR (specRS a.data.toList) = p at S I hp
  have EP := fun k (h : 2097160 ≤ k) => laws_eqSystem.refl p.1 p.2.1 (by omega) (by omega) k (by omega) (by omega)
  have MP := fun k (h : 2097160 ≤ k) => laws_markSystem.val p.1 p.2.1 (by omega) (by omega) k (by omega)
  have HP := fun k (h : 2097160 ≤ k) => laws_heldSystem.val p.1 p.2.1 (by omega) (by omega) k (by omega)
  have k2 : 6000000 ≤ k + 1 + 1 := by omega
  have k1 : 6000000 ≤ k + 1 := by omega
  have k0 : 6000000 ≤ k := by omega
  have q2 : 2097160 ≤ k + 1 + 1 := by omega
  have q1 : 2097160 ≤ k + 1 := by omega
  have q0 : 2097160 ≤ k := by omega
  have n3 : ¬ 1 + 2 * (p.1.length : Int) + 2 * (p.2.1.length : Int) < 0 := by omega
  have cc : (p.2.2 != p.2.2) = true ↔ False := by simp
  simp only [S _ k2, I _ k2, I _ k1, Option.bind_some, EP _ q2, if_true, laws_FnExactReadSystem.j0, cc, if_false, MP _ q1, HP _ q1, if_neg n3, EP _ q1, laws_FnExactReadSystem.j1, HP _ q0]
theorem laws_FnExactReadSystem.holds (a : ByteArray) (W : World) (G : GlobFP W) :
    Calls Tryd.prog 6 #[.string a] W fun e w' => e = .returned (.bool true) ∧ Below W.heap.size W w' :=
  laws_FnExactReadSystem.calls 8000000 a true W G (laws_FnExactReadSystem.pure a 8000000 (Nat.le_refl _))
end Go.Proofs.YtdhhnkhgmoblhaaDoor.Q
