/- spec.l03Told by hand: the text of a system: its signs, each a letter and its value, then its pairs. -/
import Derived.Test.YtdhhnkhgmoblhaaDoorQpureValid
import Derived.Test.YtdhhnkhgmoblhaaDoorQhandTwo
import Derived.Test.YtdhhnkhgmoblhaaDoorQlibJ
import Derived.Test.YtdhhnkhgmoblhaaDoorQspecDecimal
import Derived.Outline
import Derived.Lib.Hide
import Derived.BigRegion
import Derived.Deep.RegionHeld3
import Derived.Laws.BytesArg
namespace Go.Proofs.YtdhhnkhgmoblhaaDoor.Q
open Go.RowKit Go.Proofs.YtdhhnkhgmoblhaaDoorW.PrintWords Go.Proofs.YtdhhnkhgmoblhaaDoorW.PrintLast Go.Proofs.YtdhhnkhgmoblhaaDoorW.PrintMore
open Go.Proofs.YtdhhnkhgmoblhaaDoor.Pure
set_option linter.unusedVariables false
set_option linter.unusedSimpArgs false

def itoaB (n : Int) : ByteArray := ⟨(Lib.itoa n).toArray⟩
def blankT : ByteArray := ⟨#[32]⟩
def semiT : ByteArray := ⟨#[59]⟩
def sgT (x : SG) : ByteArray := strOfNums [x.f0] ++ itoaB x.f1
def mpT (p : MP) : ByteArray := strOfNums [p.f0, p.f1]
def toldT (s : List SG) (m : List MP) : ByteArray := (joinB (s.map sgT) blankT ++ semiT) ++ joinB (m.map mpT) blankT
def preT {α : Type} (f : α → ByteArray) (l : List α) (k : Nat) : ByteArray := if 0 < k then joinB ((l.take k).map f) blankT ++ blankT else joinB ((l.take k).map f) blankT
theorem joinB_size_le (l : List ByteArray) (M : Nat) (h : ∀ x ∈ l, x.size ≤ M) : (joinB l blankT).size ≤ l.length * (M + 1) := by
  have := joinB_size l blankT M h (by decide)
  unfold joinB
  show ((Lib.join _ _).toArray).size ≤ _
  simpa using this
theorem blankT_size : blankT.size = 1 := rfl
theorem preT_step {α : Type} (f : α → ByteArray) (l : List α) (k : Nat) (h : k < l.length) : preT f l k ++ f l[k] = joinB ((l.take (k + 1)).map f) blankT := by
  rw [List.take_succ_eq_append_getElem h, List.map_append]
  unfold preT
  by_cases h0 : 0 < k
  · rw [if_pos h0]
    exact (joinB_snoc _ _ _ (by intro he; have := congrArg List.length he; rw [List.length_map, List.length_take] at this; simp only [List.length_nil] at this; omega)).symm
  · rw [if_neg h0]
    have : k = 0 := by omega
    subst this
    rw [List.take_zero, List.map_nil, List.nil_append]
    show joinB [] blankT ++ _ = joinB [f _] blankT
    rw [joinB_one, joinB_nil]
    exact ByteArray.empty_append
theorem decDigits_len (n : Nat) : ∀ k, n < 10 ^ (k + 1) → (Lib.decDigits n).length ≤ k + 1 := by
  intro k
  induction k generalizing n with
  | zero => intro h; rw [Lib.decDigits_one (by omega)]; simp
  | succ k ih =>
    intro h
    by_cases h1 : n < 10
    · rw [Lib.decDigits_one h1]; simp
    · have := ih (n / 10) (by rw [Nat.pow_succ] at h; omega)
      rw [Lib.decDigits, dif_neg h1, List.length_append]
      simp only [List.length_singleton]
      omega
theorem itoaB_size {n : Int} (h0 : 0 ≤ n) (h1 : n ≤ 99999) : (itoaB n).size ≤ 5 := by
  unfold itoaB
  show ((Lib.itoa n).toArray).size ≤ 5
  obtain ⟨m, rfl⟩ := Int.eq_ofNat_of_zero_le h0
  rw [Lib.itoa_nonneg]
  have := decDigits_len m 4 (by omega)
  simpa using this
theorem one_size (b : Int) : (strOfNums [b]).size = 1 := rfl
theorem two_size (a b : Int) : (strOfNums [a, b]).size = 2 := rfl
theorem sgT_size {x : SG} (h0 : 0 ≤ x.f1) (h1 : x.f1 ≤ 99999) : (sgT x).size ≤ 6 := by
  unfold sgT
  rw [ByteArray.size_append, one_size]
  have := itoaB_size h0 h1
  omega
theorem num_byte (n : Int) (h0 : 0 ≤ n) (h1 : n < 10) : strOfNums [(wrap64 (48 + (Int.tmod n 10))) % 256] = ⟨#[UInt8.ofNat (48 + n.toNat)]⟩ := by
  have hm : Int.tmod n 10 = n := Int.tmod_eq_of_lt h0 h1
  rw [hm, wrap_id (by omega) (by omega)]
  have h2 : (48 + n) % 256 = 48 + n := Int.emod_eq_of_lt (by omega) (by omega)
  rw [h2]
  unfold strOfNums
  congr 1
  have h3 : (48 + n).toNat = 48 + n.toNat := by omega
  simp only [List.map_cons, List.map_nil]
  rw [h3]
  try rfl
theorem spec_Decimal.val : ∀ (k : Nat) (n : Int), 0 ≤ n → n < 10 ^ (k + 1) → k < 18 → spec_Decimal.f (k + 1) n = some (itoaB n) := by
  intro k
  induction k with
  | zero =>
    intro n h0 h1 _
    simp only [spec_Decimal.f]
    rw [if_pos (by omega), num_byte n h0 (by omega)]
    obtain ⟨m, rfl⟩ := Int.eq_ofNat_of_zero_le h0
    unfold itoaB
    rw [Lib.itoa_nonneg, Lib.decDigits_one (by omega)]
    rfl
  | succ k ih =>
    intro n h0 h1 hk
    obtain ⟨m, rfl⟩ := Int.eq_ofNat_of_zero_le h0
    rw [show spec_Decimal.f (k + 1 + 1) (m : Int) = _ from rfl]
    unfold spec_Decimal.f
    by_cases h9 : m < 10
    · rw [if_pos (by omega), num_byte _ h0 (by omega)]
      unfold itoaB
      rw [Lib.itoa_nonneg, Lib.decDigits_one h9]
      rfl
    · rw [if_neg (by omega)]
      have hd : wrap64 (Int.tdiv (m : Int) 10) = ((m / 10 : Nat) : Int) := by
        rw [show Int.tdiv (m : Int) 10 = ((m / 10 : Nat) : Int) from by rw [Int.tdiv_eq_ediv_of_nonneg (by omega)]; rfl]
        have hp : m < 10 ^ 19 := Nat.lt_of_lt_of_le (show m < 10 ^ (k + 1 + 1) by exact_mod_cast h1) (Nat.pow_le_pow_right (by decide) (by omega))
        exact wrap_id (by omega) (by omega)
      have hb : wrap64 (48 + Int.tmod (m : Int) 10) % 256 = ((48 + m % 10 : Nat) : Int) := by
        have h2 : Int.tmod (m : Int) 10 = ((m % 10 : Nat) : Int) := by rw [Int.tmod_eq_emod_of_nonneg (by omega)]; rfl
        rw [h2, wrap_id (by omega) (by omega)]
        omega
      have hp : ((m / 10 : Nat) : Int) < 10 ^ (k + 1) := by
        have h3 : m < 10 ^ (k + 1) * 10 := by
          have : (m : Int) < ((10 ^ (k + 1 + 1) : Nat) : Int) := by push_cast; exact h1
          rw [Nat.pow_succ] at this
          exact_mod_cast this
        have h4 : m / 10 < 10 ^ (k + 1) := Nat.div_lt_of_lt_mul (by omega)
        exact_mod_cast h4
      rw [hd, ih _ (by omega) hp (by omega), hb]
      simp only [Option.bind_some]
      have hs : (itoaB ((m / 10 : Nat) : Int)).size ≤ 18 := by
        unfold itoaB
        rw [Lib.itoa_nonneg]
        have := decDigits_len (m / 10) k (by exact_mod_cast hp)
        show ((Lib.decDigits (m / 10)).toArray).size ≤ 18
        simp
        omega
      rw [one_size, if_pos (by omega)]
      congr 1
      unfold itoaB
      rw [Lib.itoa_nonneg, Lib.itoa_nonneg, app_list]
      have e : Lib.decDigits m = Lib.decDigits (m / 10) ++ [UInt8.ofNat (48 + m % 10)] := by
        rw [Lib.decDigits, dif_neg h9]
      rw [e]
      congr 1

def fineS (s : List SG) (m : List MP) : Prop := s.length ≤ 8 ∧ m.length ≤ 8 ∧ ∀ x ∈ s, 0 ≤ x.f1 ∧ x.f1 ≤ 5000
theorem preT_size {α : Type} (f : α → ByteArray) (l : List α) (k : Nat) (hl : l.length ≤ 8) (h : ∀ x ∈ l, (f x).size ≤ 6) : (joinB ((l.take k).map f) blankT).size ≤ 56 ∧ (preT f l k).size ≤ 57 := by
  have h1 := joinB_size_le ((l.take k).map f) 6 (fun x hx => by
    obtain ⟨y, hy, rfl⟩ := List.mem_map.1 hx
    exact h y (List.mem_of_mem_take hy))
  have h2 : ((l.take k).map f).length ≤ 8 := by simp; omega
  have h3 : (joinB ((l.take k).map f) blankT).size ≤ 56 := by omega
  refine ⟨h3, ?_⟩
  unfold preT
  split
  · rw [ByteArray.size_append, blankT_size]; omega
  · omega

set_option maxRecDepth 20000 in
set_option maxHeartbeats 8000000 in
theorem spec_l03Told.calls (g : Nat) (l0 : List SG) (l1 : List MP) (w0 w : World) (hI : IsS30 w0 w g l0 l1) (hB : Below w0.heap.size w0 w) (hf : fineS l0 l1) :
    Calls Tryd.prog 26 #[.pointer (some ⟨g, 0, none⟩)] w fun e w' => e = .returned (.string (toldT l0 l1)) ∧ IsS30 w0 w' g l0 l1 ∧ Below w0.heap.size w0 w' := by
  obtain ⟨hl0, hl1, hfit⟩ := hf
  have HF := Lib.hid hfit
  have HI := Lib.hid hI
  have HW := Lib.hid hB
  have SZ := Lib.hid (fun k => preT_size sgT l0 k hl0 (fun x hx => sgT_size (HF.out x hx).1 (by have := (HF.out x hx).2; omega)))
  have MZ := Lib.hid (fun k => preT_size mpT l1 k hl1 (fun x hx => by show (strOfNums _).size ≤ 6; rw [two_size]; omega))
  clear hI hB hfit
  go_enter Tryd.func26, Tryd.ntmps26
  go_wp2
  go_loopw [3, 4] (fun v i wr => ∃ (k : Nat) (pt : ByteArray), k ≤ l0.length ∧ v = .string pt ∧ i = .int .i64 k ∧ RowKit.Hid (pt = joinB ((l0.take k).map sgT) blankT) ∧ RowKit.Hid (IsS30 w0 wr g l0 l1) ∧ RowKit.Hid (Below w0.heap.size w0 wr)) (fun _ i _ => l0.length - (intOf i).toNat)
  case atStart => exact ⟨0, _, Nat.zero_le _, rfl, rfl, Lib.hid rfl, HI, HW⟩
  case round =>
    clear HI HW
    obtain ⟨k, pt, hk, rfl, rfl, PE, HI, HW⟩ := hrel
    obtain ⟨A0, c0, A1, c1, hbk, hg, hr0, hr1⟩ := HI.out
    have HR0 := Lib.hid hr0
    have hd0 := (blk_cell hbk 0).trans rfl
    have hd1 := (blk_cell hbk 1).trans rfl
    clear hg hr0 hr1 hbk
    by_cases hlt : k < l0.length
    · have hlt2 : (k : Int) < (l0.length : Int) := by omega
      obtain ⟨ad2, ea, hx, hy⟩ := at_T56 (Kd.C_below HR0.out HW.out) (k : Nat) (by omega) (by omega)
      cases ea
      simp only [Int.toNat_natCast] at hx hy
      have EX := Lib.hid (rdSG_get _ _ hlt)
      have hfit := HF.out _ (List.getElem_mem hlt)
      rw [← rdSG_get _ _ hlt] at hfit
      have HD := Lib.hid (show spec_Decimal.f 18 (wrap64 (rd_T56 l0 (k : Int)).f1) = some (itoaB (rd_T56 l0 (k : Int)).f1) from by rw [wrap_id (by omega) (by omega)]; exact spec_Decimal.val 17 _ hfit.1 (by have := hfit.2; omega) (by decide))
      have z1 := (SZ.out k).1
      rw [← PE.out] at z1
      obtain ⟨pp, hpp⟩ : ∃ pp, pp = preT sgT l0 k := ⟨_, rfl⟩
      have z2 := (SZ.out k).2
      rw [← hpp] at z2
      obtain ⟨ib, hib⟩ : ∃ ib, ib = itoaB (rd_T56 l0 (k : Int)).f1 := ⟨_, rfl⟩
      have z3 : (itoaB (rd_T56 l0 (k : Int)).f1).size ≤ 5 := itoaB_size hfit.1 (by have := hfit.2; omega)
      obtain ⟨sb, hsb⟩ : ∃ sb, sb = strOfNums [(rd_T56 l0 (k : Int)).f0] := ⟨_, rfl⟩
      have z4 : sb.size = 1 := by rw [hsb]; rfl
      rw [← hib] at HD z3
      have PS := Lib.hid (show pp ++ (sb ++ ib) = joinB ((l0.take (k + 1)).map sgT) blankT from by have := preT_step sgT l0 k hlt; rw [← EX.out] at this; rw [hpp, hsb, hib]; exact this)
      have HPP := Lib.hid hpp
      have HSB := Lib.hid hsb
      clear hfit hpp hib hsb
      by_cases h0 : 0 < k
      · skip
        have c1 : decide (0 < (k : Int)) = true := decide_eq_true (by omega)
        have c2a : decide (pt.size + 1 ≤ 9223372036854775807) = true := decide_eq_true (by omega)
        have c2b : (9223372036854775807 < pt.size + 1) = False := eq_false (by omega)
        have c3a : decide (pt.size + (⟨#[32]⟩ : ByteArray).size ≤ 9223372036854775807) = true := decide_eq_true (by have e1 : (⟨#[32]⟩ : ByteArray).size = 1 := rfl; omega)
        have c3b : (9223372036854775807 < pt.size + (⟨#[32]⟩ : ByteArray).size) = False := eq_false (by have e1 : (⟨#[32]⟩ : ByteArray).size = 1 := rfl; omega)
        have y1a : decide (sb.size + ib.size ≤ 9223372036854775807) = true := decide_eq_true (by omega)
        have y1b : (9223372036854775807 < sb.size + ib.size) = False := eq_false (by omega)
        have y2a : decide (pp.size + (sb.size + ib.size) ≤ 9223372036854775807) = true := decide_eq_true (by omega)
        have y2b : (9223372036854775807 < pp.size + (sb.size + ib.size)) = False := eq_false (by omega)
        have y3a : decide (pp.size + (sb ++ ib).size ≤ 9223372036854775807) = true := decide_eq_true (by rw [ByteArray.size_append]; omega)
        have y3b : (9223372036854775807 < pp.size + (sb ++ ib).size) = False := eq_false (by rw [ByteArray.size_append]; omega)
        clear z1 z2 z3 z4
        go_wp2
        clear c1 c2a c2b c3a c3b
        have ep : pt ++ (⟨#[32]⟩ : ByteArray) = pp := by rw [PE.out, HPP.out]; unfold preT; rw [if_pos h0]; rfl
        rw [ep]
        clear ep
        have HI2 := Lib.hid (show IsS30 w0 wr.drew g l0 l1 from HI.out.drew)
        have HW2 := Lib.hid (below_drew1 HW.out)
        have hd2 : wr.drew.cell? ⟨g, 0, none⟩ = some (.slice (some ad2) l0.length c0) := hd0
        have hx2 : wr.drew.cell? _ = _ := hx
        have hy2 : wr.drew.cell? _ = _ := hy
        clear HI HW hd0 hd1 hx hy
        refine start_ (n := 24) (S := fun w' => Below (wr).drew.heap.size (wr).drew w') (ds := []) #[false, false, false, false, false, false, false, false, false, false, false, false, false, false, false, false, false, false, false, false, false, false, false, false] (by kernel_rfl) rfl rfl (Below.refl _ _) (fun hHeld => ?_)
        generalize wr.drew = wq at HI2 HW2 hd2 hx2 hy2 hHeld ⊢
        refine pure_ (i := 0) (N := some 19) (v := ?_) (a' := ?_) #[true, false, false, false, false, false, false, false, false, false, false, false, false, false, false, false, false, false, false, false, false, false, false, false] rfl rfl (by kernel_rfl) (fun _ _ _ h => h) (Or.inl ⟨by rfl, ?_⟩) ?_ ?_
        rotate_left
        · intro w'
          go_simp
          with_reducible rfl
        rotate_left
        · simp only [Act.put, List.setIfInBounds_toArray, List.set_cons_zero, List.set_cons_succ, i64_w, i32_w]
          rfl
        refine pure_ (i := 1) (N := some 20) (v := ?_) (a' := ?_) #[true, true, false, false, false, false, false, false, false, false, false, false, false, false, false, false, false, false, false, false, false, false, false, false] rfl rfl (by kernel_rfl) (fun _ _ _ h => h) (Or.inl ⟨by rfl, ?_⟩) ?_ ?_
        rotate_left
        · intro w'
          go_simp
          with_reducible rfl
        rotate_left
        · simp only [Act.put, List.setIfInBounds_toArray, List.set_cons_zero, List.set_cons_succ, i64_w, i32_w]
          rfl
        refine pure_ (i := 2) (N := some 21) (v := ?_) (a' := ?_) #[true, true, true, false, false, false, false, false, false, false, false, false, false, false, false, false, false, false, false, false, false, false, false, false] rfl rfl (by kernel_rfl) (fun _ _ _ h => h) (Or.inl ⟨by rfl, ?_⟩) ?_ ?_
        rotate_left
        · intro w'
          go_simp
          with_reducible rfl
        rotate_left
        · simp only [Act.put, List.setIfInBounds_toArray, List.set_cons_zero, List.set_cons_succ, i64_w, i32_w]
          rfl
        refine pure_ (i := 3) (N := some 22) (v := ?_) (a' := ?_) #[true, true, true, true, false, false, false, false, false, false, false, false, false, false, false, false, false, false, false, false, false, false, false, false] rfl rfl (by kernel_rfl) (fun _ _ _ h => h) (Or.inl ⟨by rfl, ?_⟩) ?_ ?_
        rotate_left
        · intro w'
          go_simp
          with_reducible rfl
        rotate_left
        · simp only [Act.put, List.setIfInBounds_toArray, List.set_cons_zero, List.set_cons_succ, i64_w, i32_w]
          rfl
        refine take_ (i := 4) (N := some 23) (v := ?_) (a' := ?_) #[true, true, true, true, true, false, false, false, false, false, false, false, false, false, false, false, false, false, false, false, false, false, false, false] rfl rfl (by kernel_rfl) (fun _ _ _ h => h) (Or.inl ⟨by rfl, ?_⟩) hHeld ?_ ?_
        rotate_left
        · rintro w' hS
          have q_hd2 := bcell hS hd2
          have q_hx2 := bcell hS hx2
          have q_hy2 := bcell hS hy2
          go_simp
          with_reducible rfl
        rotate_left
        · simp only [Act.put, List.setIfInBounds_toArray, List.set_cons_zero, List.set_cons_succ, i64_w, i32_w]
          rfl
        refine pure_ (i := 5) (N := some 24) (v := ?_) (a' := ?_) #[true, true, true, true, true, true, false, false, false, false, false, false, false, false, false, false, false, false, false, false, false, false, false, false] rfl rfl (by kernel_rfl) (fun _ _ _ h => h) (Or.inl ⟨by rfl, ?_⟩) ?_ ?_
        rotate_left
        · intro w'
          go_simp
          with_reducible rfl
        rotate_left
        · simp only [Act.put, List.setIfInBounds_toArray, List.set_cons_zero, List.set_cons_succ, i64_w, i32_w]
          rfl
        refine pure_ (i := 6) (N := some 25) (v := ?_) (a' := ?_) #[true, true, true, true, true, true, true, false, false, false, false, false, false, false, false, false, false, false, false, false, false, false, false, false] rfl rfl (by kernel_rfl) (fun _ _ _ h => h) (Or.inl ⟨by rfl, ?_⟩) ?_ ?_
        rotate_left
        · intro w'
          go_simp
          with_reducible rfl
        rotate_left
        · simp only [Act.put, List.setIfInBounds_toArray, List.set_cons_zero, List.set_cons_succ, i64_w, i32_w]
          rfl
        refine pure_ (i := 7) (N := some 26) (v := ?_) (a' := ?_) #[true, true, true, true, true, true, true, true, false, false, false, false, false, false, false, false, false, false, false, false, false, false, false, false] rfl rfl (by kernel_rfl) (fun _ _ _ h => h) (Or.inl ⟨by rfl, ?_⟩) ?_ ?_
        rotate_left
        · intro w'
          go_simp
          with_reducible rfl
        rotate_left
        · simp only [Act.put, List.setIfInBounds_toArray, List.set_cons_zero, List.set_cons_succ, i64_w, i32_w]
          rfl
        refine take_ (i := 8) (N := some 27) (v := ?_) (a' := ?_) #[true, true, true, true, true, true, true, true, true, false, false, false, false, false, false, false, false, false, false, false, false, false, false, false] rfl rfl (by kernel_rfl) (fun _ _ _ h => h) (Or.inl ⟨by rfl, ?_⟩) hHeld ?_ ?_
        rotate_left
        · rintro w' hS
          have q_hd2 := bcell hS hd2
          have q_hx2 := bcell hS hx2
          have q_hy2 := bcell hS hy2
          go_simp
          with_reducible rfl
        rotate_left
        · simp only [Act.put, List.setIfInBounds_toArray, List.set_cons_zero, List.set_cons_succ, i64_w, i32_w]
          rfl
        refine pure_ (i := 11) (N := some 30) (v := ?_) (a' := ?_) #[true, true, true, true, true, true, true, true, true, false, false, true, false, false, false, false, false, false, false, false, false, false, false, false] rfl rfl (by kernel_rfl) (fun _ _ _ h => h) (Or.inl ⟨by rfl, ?_⟩) ?_ ?_
        rotate_left
        · intro w'
          go_simp
          with_reducible rfl
        rotate_left
        · simp only [Act.put, List.setIfInBounds_toArray, List.set_cons_zero, List.set_cons_succ, i64_w, i32_w]
          rfl
        refine pure_ (i := 12) (N := some 31) (v := ?_) (a' := ?_) #[true, true, true, true, true, true, true, true, true, false, false, true, true, false, false, false, false, false, false, false, false, false, false, false] rfl rfl (by kernel_rfl) (fun _ _ _ h => h) (Or.inl ⟨by rfl, ?_⟩) ?_ ?_
        rotate_left
        · intro w'
          go_simp
          with_reducible rfl
        rotate_left
        · simp only [Act.put, List.setIfInBounds_toArray, List.set_cons_zero, List.set_cons_succ, i64_w, i32_w]
          rfl
        refine pure_ (i := 13) (N := some 32) (v := ?_) (a' := ?_) #[true, true, true, true, true, true, true, true, true, false, false, true, true, true, false, false, false, false, false, false, false, false, false, false] rfl rfl (by kernel_rfl) (fun _ _ _ h => h) (Or.inl ⟨by rfl, ?_⟩) ?_ ?_
        rotate_left
        · intro w'
          go_simp
          with_reducible rfl
        rotate_left
        · simp only [Act.put, List.setIfInBounds_toArray, List.set_cons_zero, List.set_cons_succ, i64_w, i32_w]
          rfl
        refine take_ (i := 14) (N := some 33) (v := ?_) (a' := ?_) #[true, true, true, true, true, true, true, true, true, false, false, true, true, true, true, false, false, false, false, false, false, false, false, false] rfl rfl (by kernel_rfl) (fun _ _ _ h => h) (Or.inl ⟨by rfl, ?_⟩) hHeld ?_ ?_
        rotate_left
        · rintro w' hS
          have q_hd2 := bcell hS hd2
          have q_hx2 := bcell hS hx2
          have q_hy2 := bcell hS hy2
          go_simp
          with_reducible rfl
        rotate_left
        · simp only [Act.put, List.setIfInBounds_toArray, List.set_cons_zero, List.set_cons_succ, i64_w, i32_w]
          rfl
        refine pure_ (i := 15) (N := some 34) (v := ?_) (a' := ?_) #[true, true, true, true, true, true, true, true, true, false, false, true, true, true, true, true, false, false, false, false, false, false, false, false] rfl rfl (by kernel_rfl) (fun _ _ _ h => h) (Or.inl ⟨by rfl, ?_⟩) ?_ ?_
        rotate_left
        · intro w'
          go_simp
          with_reducible rfl
        rotate_left
        · simp only [Act.put, List.setIfInBounds_toArray, List.set_cons_zero, List.set_cons_succ, i64_w, i32_w]
          rfl
        refine pure_ (i := 16) (N := some 35) (v := ?_) (a' := ?_) #[true, true, true, true, true, true, true, true, true, false, false, true, true, true, true, true, true, false, false, false, false, false, false, false] rfl rfl (by kernel_rfl) (fun _ _ _ h => h) (Or.inl ⟨by rfl, ?_⟩) ?_ ?_
        rotate_left
        · intro w'
          go_simp
          with_reducible rfl
        rotate_left
        · simp only [Act.put, List.setIfInBounds_toArray, List.set_cons_zero, List.set_cons_succ, i64_w, i32_w]
          rfl
        refine pure_ (i := 17) (N := some 36) (v := ?_) (a' := ?_) #[true, true, true, true, true, true, true, true, true, false, false, true, true, true, true, true, true, true, false, false, false, false, false, false] rfl rfl (by kernel_rfl) (fun _ _ _ h => h) (Or.inl ⟨by rfl, ?_⟩) ?_ ?_
        rotate_left
        · intro w'
          go_simp
          with_reducible rfl
        rotate_left
        · simp only [Act.put, List.setIfInBounds_toArray, List.set_cons_zero, List.set_cons_succ, i64_w, i32_w]
          rfl
        refine take_ (i := 18) (N := some 37) (v := ?_) (a' := ?_) #[true, true, true, true, true, true, true, true, true, false, false, true, true, true, true, true, true, true, true, false, false, false, false, false] rfl rfl (by kernel_rfl) (fun _ _ _ h => h) (Or.inl ⟨by rfl, ?_⟩) hHeld ?_ ?_
        rotate_left
        · rintro w' hS
          have q_hd2 := bcell hS hd2
          have q_hx2 := bcell hS hx2
          have q_hy2 := bcell hS hy2
          go_simp
          with_reducible rfl
        rotate_left
        · simp only [Act.put, List.setIfInBounds_toArray, List.set_cons_zero, List.set_cons_succ, i64_w, i32_w]
          rfl
        refine pure_ (i := 19) (N := some 38) (v := ?_) (a' := ?_) #[true, true, true, true, true, true, true, true, true, false, false, true, true, true, true, true, true, true, true, true, false, false, false, false] rfl rfl (by kernel_rfl) (fun _ _ _ h => h) (Or.inl ⟨by rfl, ?_⟩) ?_ ?_
        rotate_left
        · intro w'
          go_simp
          with_reducible rfl
        rotate_left
        · simp only [Act.put, List.setIfInBounds_toArray, List.set_cons_zero, List.set_cons_succ, i64_w, i32_w]
          rfl
        refine two_ (i := 9) (j := 20) (Ni := some 28) (Nj := some 39) #[true, true, true, true, true, true, true, true, true, true, false, true, true, true, true, true, true, true, true, true, false, false, false, false] #[true, true, true, true, true, true, true, true, true, false, false, true, true, true, true, true, true, true, true, true, true, false, false, false] rfl rfl rfl rfl (by kernel_rfl) (by decide) (by decide) (fun K hK => ?_) (fun K hK => ?_)
        · skip
          refine Kd.R_lit_step (Kd.int .u8) _ 5 ?hgu1 (N := 28) ?hdu1 (xs := ([(rd_T56 l0 (k : Int)).f0] : List Int)) (inner := [.int .u8 (rd_T56 l0 (k : Int)).f0]) (ok := fun _ => True) (okp := fun _ => True) ?hru1 ?hpu1 (fun _ hk => hk) trivial (Below.refl _ _) (Nat.le_refl _) (by simp) ?_
          (case hdu1 => rfl)
          (case hgu1 => rfl)
          (case hru1 => first | (go_simp; done) | (go_simp; rfl))
          (case hpu1 => exact (Reps.one (show Kd.M (Kd.int .u8) _ _ _ (rd_T56 l0 (k : Int)).f0 [.int .u8 (rd_T56 l0 (k : Int)).f0] from rfl) (Reps.none _ _)))
          intro vl wz ho hb hg_ hnew_
          clear hg_ hnew_
          have HL := Lib.hid ho
          clear ho
          have hS_ := below_step hHeld hb
          clear hb hHeld
          refine hK.out _ _ hS_ (fun hHeld => ?_)
          clear hK K hS_
          refine norm_ (a' := ?_) ?_ ?_
          rotate_left
          · show Act.put _ (some 28) _ = _
            simp only [Act.put, List.setIfInBounds_toArray, List.set_cons_zero, List.set_cons_succ, i64_w, i32_w]
            rfl
          refine two_ (i := 10) (j := 20) (Ni := some 29) (Nj := some 39) #[true, true, true, true, true, true, true, true, true, true, true, true, true, true, true, true, true, true, true, true, false, false, false, false] #[true, true, true, true, true, true, true, true, true, true, false, true, true, true, true, true, true, true, true, true, true, false, false, false] rfl rfl rfl rfl (by kernel_rfl) (by decide) (by decide) (fun K hK => ?_) (fun K hK => ?_)
          · skip
            have hcv := own_string (P := Tryd.prog) Tryd.underlying57 Tryd.underlying5 Tryd.underlying9 (Kd.own_of_R HL.out)
            rw [← HSB.out] at hcv
            refine value_ (w1 := ?_) (v := ?_) (by rfl) rfl ?_ ?_
            rotate_left 2
            · go_simp
              constructor
              · rfl
              · rfl
            clear hcv HL
            refine hK.out _ _ hHeld (fun hHeld => ?_)
            clear hK K
            refine norm_ (a' := ?_) ?_ ?_
            rotate_left
            · show Act.put _ (some 29) _ = _
              simp only [Act.put, List.setIfInBounds_toArray, List.set_cons_zero, List.set_cons_succ, i64_w, i32_w]
              rfl
            refine one_ (i := 20) (N := some 39) #[true, true, true, true, true, true, true, true, true, true, true, true, true, true, true, true, true, true, true, true, true, false, false, false] rfl rfl (by kernel_rfl) (by decide) (fun K hK => ?_)
            refine goes_ Tryd.func51 (by kernel_rfl) rfl #[.int .i64 (wrap64 (rd_T56 l0 (k : Int)).f1)] (by rfl) rfl rfl (by (try simp only [List.map_toArray, List.map_cons, List.map_nil]); first | done | rfl | (simp only [List.length_drop, List.length_take]; rfl)) ?_
            with_reducible refine (spec_Decimal.calls 18 (wrap64 (rd_T56 l0 (k : Int)).f1) ib _ HD.out).mono ?_
            rintro e wz ⟨rfl, hb⟩
            refine ⟨_, rfl, ?_⟩
            have hS_ := below_step hHeld hb
            clear hb hHeld
            refine hK.out _ _ hS_ (fun hHeld => ?_)
            clear hK K hS_
            refine norm_ (a' := ?_) ?_ ?_
            rotate_left
            · show Act.put _ (some 39) _ = _
              simp only [Act.put, List.setIfInBounds_toArray, List.set_cons_zero, List.set_cons_succ, i64_w, i32_w]
              rfl
            refine pure_ (i := 21) (N := some 40) (v := ?_) (a' := ?_) #[true, true, true, true, true, true, true, true, true, true, true, true, true, true, true, true, true, true, true, true, true, true, false, false] rfl rfl (by kernel_rfl) (fun _ _ _ h => h) (Or.inl ⟨by rfl, ?_⟩) ?_ ?_
            rotate_left
            · intro w'
              go_simp
              with_reducible rfl
            rotate_left
            · simp only [Act.put, List.setIfInBounds_toArray, List.set_cons_zero, List.set_cons_succ, i64_w, i32_w]
              rfl
            refine pure_ (i := 22) (N := some 41) (v := ?_) (a' := ?_) #[true, true, true, true, true, true, true, true, true, true, true, true, true, true, true, true, true, true, true, true, true, true, true, false] rfl rfl (by kernel_rfl) (fun _ _ _ h => h) (Or.inl ⟨by rfl, ?_⟩) ?_ ?_
            rotate_left
            · intro w'
              go_simp
              with_reducible rfl
            rotate_left
            · simp only [Act.put, List.setIfInBounds_toArray, List.set_cons_zero, List.set_cons_succ, i64_w, i32_w]
              rfl
            refine pure_ (i := 23) (N := some 3) (v := ?_) (a' := ?_) #[true, true, true, true, true, true, true, true, true, true, true, true, true, true, true, true, true, true, true, true, true, true, true, true] rfl rfl (by kernel_rfl) (fun _ _ _ h => h) (Or.inl ⟨by rfl, ?_⟩) ?_ ?_
            rotate_left
            · intro w'
              go_simp
              with_reducible rfl
            rotate_left
            · simp only [Act.put, List.setIfInBounds_toArray, List.set_cons_zero, List.set_cons_succ, i64_w, i32_w]
              rfl
            refine done_ (by kernel_rfl) ?_
            go_wp2
            go_roundw
            case measure => simp only [intOf]; omega
            case rel => exact ⟨k + 1, _, by omega, rfl, by go_num, PS, Lib.hid (HI2.out.below hHeld), Lib.hid (below_step HW2.out hHeld)⟩
          · skip
            refine goes_ Tryd.func51 (by kernel_rfl) rfl #[.int .i64 (wrap64 (rd_T56 l0 (k : Int)).f1)] (by rfl) rfl rfl (by (try simp only [List.map_toArray, List.map_cons, List.map_nil]); first | done | rfl | (simp only [List.length_drop, List.length_take]; rfl)) ?_
            with_reducible refine (spec_Decimal.calls 18 (wrap64 (rd_T56 l0 (k : Int)).f1) ib _ HD.out).mono ?_
            rintro e wz ⟨rfl, hb⟩
            refine ⟨_, rfl, ?_⟩
            have m_HL := Lib.hid (Kd.R_below HL.out hb)
            clear HL
            have HL := m_HL
            clear m_HL
            have hS_ := below_step hHeld hb
            clear hb hHeld
            refine hK.out _ _ hS_ (fun hHeld => ?_)
            clear hK K hS_
            refine norm_ (a' := ?_) ?_ ?_
            rotate_left
            · show Act.put _ (some 39) _ = _
              simp only [Act.put, List.setIfInBounds_toArray, List.set_cons_zero, List.set_cons_succ, i64_w, i32_w]
              rfl
            refine one_ (i := 10) (N := some 29) #[true, true, true, true, true, true, true, true, true, true, true, true, true, true, true, true, true, true, true, true, true, false, false, false] rfl rfl (by kernel_rfl) (by decide) (fun K hK => ?_)
            have hcv := own_string (P := Tryd.prog) Tryd.underlying57 Tryd.underlying5 Tryd.underlying9 (Kd.own_of_R HL.out)
            rw [← HSB.out] at hcv
            refine value_ (w1 := ?_) (v := ?_) (by rfl) rfl ?_ ?_
            rotate_left 2
            · go_simp
              constructor
              · rfl
              · rfl
            clear hcv HL
            refine hK.out _ _ hHeld (fun hHeld => ?_)
            clear hK K
            refine norm_ (a' := ?_) ?_ ?_
            rotate_left
            · show Act.put _ (some 29) _ = _
              simp only [Act.put, List.setIfInBounds_toArray, List.set_cons_zero, List.set_cons_succ, i64_w, i32_w]
              rfl
            refine pure_ (i := 21) (N := some 40) (v := ?_) (a' := ?_) #[true, true, true, true, true, true, true, true, true, true, true, true, true, true, true, true, true, true, true, true, true, true, false, false] rfl rfl (by kernel_rfl) (fun _ _ _ h => h) (Or.inl ⟨by rfl, ?_⟩) ?_ ?_
            rotate_left
            · intro w'
              go_simp
              with_reducible rfl
            rotate_left
            · simp only [Act.put, List.setIfInBounds_toArray, List.set_cons_zero, List.set_cons_succ, i64_w, i32_w]
              rfl
            refine pure_ (i := 22) (N := some 41) (v := ?_) (a' := ?_) #[true, true, true, true, true, true, true, true, true, true, true, true, true, true, true, true, true, true, true, true, true, true, true, false] rfl rfl (by kernel_rfl) (fun _ _ _ h => h) (Or.inl ⟨by rfl, ?_⟩) ?_ ?_
            rotate_left
            · intro w'
              go_simp
              with_reducible rfl
            rotate_left
            · simp only [Act.put, List.setIfInBounds_toArray, List.set_cons_zero, List.set_cons_succ, i64_w, i32_w]
              rfl
            refine pure_ (i := 23) (N := some 3) (v := ?_) (a' := ?_) #[true, true, true, true, true, true, true, true, true, true, true, true, true, true, true, true, true, true, true, true, true, true, true, true] rfl rfl (by kernel_rfl) (fun _ _ _ h => h) (Or.inl ⟨by rfl, ?_⟩) ?_ ?_
            rotate_left
            · intro w'
              go_simp
              with_reducible rfl
            rotate_left
            · simp only [Act.put, List.setIfInBounds_toArray, List.set_cons_zero, List.set_cons_succ, i64_w, i32_w]
              rfl
            refine done_ (by kernel_rfl) ?_
            go_wp2
            go_roundw
            case measure => simp only [intOf]; omega
            case rel => exact ⟨k + 1, _, by omega, rfl, by go_num, PS, Lib.hid (HI2.out.below hHeld), Lib.hid (below_step HW2.out hHeld)⟩
        · skip
          refine goes_ Tryd.func51 (by kernel_rfl) rfl #[.int .i64 (wrap64 (rd_T56 l0 (k : Int)).f1)] (by rfl) rfl rfl (by (try simp only [List.map_toArray, List.map_cons, List.map_nil]); first | done | rfl | (simp only [List.length_drop, List.length_take]; rfl)) ?_
          with_reducible refine (spec_Decimal.calls 18 (wrap64 (rd_T56 l0 (k : Int)).f1) ib _ HD.out).mono ?_
          rintro e wz ⟨rfl, hb⟩
          refine ⟨_, rfl, ?_⟩
          have hS_ := below_step hHeld hb
          clear hb hHeld
          refine hK.out _ _ hS_ (fun hHeld => ?_)
          clear hK K hS_
          refine norm_ (a' := ?_) ?_ ?_
          rotate_left
          · show Act.put _ (some 39) _ = _
            simp only [Act.put, List.setIfInBounds_toArray, List.set_cons_zero, List.set_cons_succ, i64_w, i32_w]
            rfl
          refine one_ (i := 9) (N := some 28) #[true, true, true, true, true, true, true, true, true, true, false, true, true, true, true, true, true, true, true, true, true, false, false, false] rfl rfl (by kernel_rfl) (by decide) (fun K hK => ?_)
          refine Kd.R_lit_step (Kd.int .u8) _ 5 ?hgu2 (N := 28) ?hdu2 (xs := ([(rd_T56 l0 (k : Int)).f0] : List Int)) (inner := [.int .u8 (rd_T56 l0 (k : Int)).f0]) (ok := fun _ => True) (okp := fun _ => True) ?hru2 ?hpu2 (fun _ hk => hk) trivial (Below.refl _ _) (Nat.le_refl _) (by simp) ?_
          (case hdu2 => rfl)
          (case hgu2 => rfl)
          (case hru2 => first | (go_simp; done) | (go_simp; rfl))
          (case hpu2 => exact (Reps.one (show Kd.M (Kd.int .u8) _ _ _ (rd_T56 l0 (k : Int)).f0 [.int .u8 (rd_T56 l0 (k : Int)).f0] from rfl) (Reps.none _ _)))
          intro vl wz ho hb hg_ hnew_
          clear hg_ hnew_
          have HL := Lib.hid ho
          clear ho
          have hS_ := below_step hHeld hb
          clear hb hHeld
          refine hK.out _ _ hS_ (fun hHeld => ?_)
          clear hK K hS_
          refine norm_ (a' := ?_) ?_ ?_
          rotate_left
          · show Act.put _ (some 28) _ = _
            simp only [Act.put, List.setIfInBounds_toArray, List.set_cons_zero, List.set_cons_succ, i64_w, i32_w]
            rfl
          refine one_ (i := 10) (N := some 29) #[true, true, true, true, true, true, true, true, true, true, true, true, true, true, true, true, true, true, true, true, true, false, false, false] rfl rfl (by kernel_rfl) (by decide) (fun K hK => ?_)
          have hcv := own_string (P := Tryd.prog) Tryd.underlying57 Tryd.underlying5 Tryd.underlying9 (Kd.own_of_R HL.out)
          rw [← HSB.out] at hcv
          refine value_ (w1 := ?_) (v := ?_) (by rfl) rfl ?_ ?_
          rotate_left 2
          · go_simp
            constructor
            · rfl
            · rfl
          clear hcv HL
          refine hK.out _ _ hHeld (fun hHeld => ?_)
          clear hK K
          refine norm_ (a' := ?_) ?_ ?_
          rotate_left
          · show Act.put _ (some 29) _ = _
            simp only [Act.put, List.setIfInBounds_toArray, List.set_cons_zero, List.set_cons_succ, i64_w, i32_w]
            rfl
          refine pure_ (i := 21) (N := some 40) (v := ?_) (a' := ?_) #[true, true, true, true, true, true, true, true, true, true, true, true, true, true, true, true, true, true, true, true, true, true, false, false] rfl rfl (by kernel_rfl) (fun _ _ _ h => h) (Or.inl ⟨by rfl, ?_⟩) ?_ ?_
          rotate_left
          · intro w'
            go_simp
            with_reducible rfl
          rotate_left
          · simp only [Act.put, List.setIfInBounds_toArray, List.set_cons_zero, List.set_cons_succ, i64_w, i32_w]
            rfl
          refine pure_ (i := 22) (N := some 41) (v := ?_) (a' := ?_) #[true, true, true, true, true, true, true, true, true, true, true, true, true, true, true, true, true, true, true, true, true, true, true, false] rfl rfl (by kernel_rfl) (fun _ _ _ h => h) (Or.inl ⟨by rfl, ?_⟩) ?_ ?_
          rotate_left
          · intro w'
            go_simp
            with_reducible rfl
          rotate_left
          · simp only [Act.put, List.setIfInBounds_toArray, List.set_cons_zero, List.set_cons_succ, i64_w, i32_w]
            rfl
          refine pure_ (i := 23) (N := some 3) (v := ?_) (a' := ?_) #[true, true, true, true, true, true, true, true, true, true, true, true, true, true, true, true, true, true, true, true, true, true, true, true] rfl rfl (by kernel_rfl) (fun _ _ _ h => h) (Or.inl ⟨by rfl, ?_⟩) ?_ ?_
          rotate_left
          · intro w'
            go_simp
            with_reducible rfl
          rotate_left
          · simp only [Act.put, List.setIfInBounds_toArray, List.set_cons_zero, List.set_cons_succ, i64_w, i32_w]
            rfl
          refine done_ (by kernel_rfl) ?_
          go_wp2
          go_roundw
          case measure => simp only [intOf]; omega
          case rel => exact ⟨k + 1, _, by omega, rfl, by go_num, PS, Lib.hid (HI2.out.below hHeld), Lib.hid (below_step HW2.out hHeld)⟩
      · skip
        have c1 : decide (0 < (k : Int)) = false := decide_eq_false (by omega)
        have y1a : decide (sb.size + ib.size ≤ 9223372036854775807) = true := decide_eq_true (by omega)
        have y1b : (9223372036854775807 < sb.size + ib.size) = False := eq_false (by omega)
        have y2a : decide (pp.size + (sb.size + ib.size) ≤ 9223372036854775807) = true := decide_eq_true (by omega)
        have y2b : (9223372036854775807 < pp.size + (sb.size + ib.size)) = False := eq_false (by omega)
        have y3a : decide (pp.size + (sb ++ ib).size ≤ 9223372036854775807) = true := decide_eq_true (by rw [ByteArray.size_append]; omega)
        have y3b : (9223372036854775807 < pp.size + (sb ++ ib).size) = False := eq_false (by rw [ByteArray.size_append]; omega)
        clear z1 z2 z3 z4
        go_wp2
        clear c1
        have ep : pt = pp := by rw [PE.out, HPP.out]; unfold preT; rw [if_neg h0]
        rw [ep]
        clear ep
        have HI2 := Lib.hid (show IsS30 w0 wr.drew g l0 l1 from HI.out.drew)
        have HW2 := Lib.hid (below_drew1 HW.out)
        have hd2 : wr.drew.cell? ⟨g, 0, none⟩ = some (.slice (some ad2) l0.length c0) := hd0
        have hx2 : wr.drew.cell? _ = _ := hx
        have hy2 : wr.drew.cell? _ = _ := hy
        clear HI HW hd0 hd1 hx hy
        refine start_ (n := 24) (S := fun w' => Below (wr).drew.heap.size (wr).drew w') (ds := []) #[false, false, false, false, false, false, false, false, false, false, false, false, false, false, false, false, false, false, false, false, false, false, false, false] (by kernel_rfl) rfl rfl (Below.refl _ _) (fun hHeld => ?_)
        generalize wr.drew = wq at HI2 HW2 hd2 hx2 hy2 hHeld ⊢
        refine pure_ (i := 0) (N := some 19) (v := ?_) (a' := ?_) #[true, false, false, false, false, false, false, false, false, false, false, false, false, false, false, false, false, false, false, false, false, false, false, false] rfl rfl (by kernel_rfl) (fun _ _ _ h => h) (Or.inl ⟨by rfl, ?_⟩) ?_ ?_
        rotate_left
        · intro w'
          go_simp
          with_reducible rfl
        rotate_left
        · simp only [Act.put, List.setIfInBounds_toArray, List.set_cons_zero, List.set_cons_succ, i64_w, i32_w]
          rfl
        refine pure_ (i := 1) (N := some 20) (v := ?_) (a' := ?_) #[true, true, false, false, false, false, false, false, false, false, false, false, false, false, false, false, false, false, false, false, false, false, false, false] rfl rfl (by kernel_rfl) (fun _ _ _ h => h) (Or.inl ⟨by rfl, ?_⟩) ?_ ?_
        rotate_left
        · intro w'
          go_simp
          with_reducible rfl
        rotate_left
        · simp only [Act.put, List.setIfInBounds_toArray, List.set_cons_zero, List.set_cons_succ, i64_w, i32_w]
          rfl
        refine pure_ (i := 2) (N := some 21) (v := ?_) (a' := ?_) #[true, true, true, false, false, false, false, false, false, false, false, false, false, false, false, false, false, false, false, false, false, false, false, false] rfl rfl (by kernel_rfl) (fun _ _ _ h => h) (Or.inl ⟨by rfl, ?_⟩) ?_ ?_
        rotate_left
        · intro w'
          go_simp
          with_reducible rfl
        rotate_left
        · simp only [Act.put, List.setIfInBounds_toArray, List.set_cons_zero, List.set_cons_succ, i64_w, i32_w]
          rfl
        refine pure_ (i := 3) (N := some 22) (v := ?_) (a' := ?_) #[true, true, true, true, false, false, false, false, false, false, false, false, false, false, false, false, false, false, false, false, false, false, false, false] rfl rfl (by kernel_rfl) (fun _ _ _ h => h) (Or.inl ⟨by rfl, ?_⟩) ?_ ?_
        rotate_left
        · intro w'
          go_simp
          with_reducible rfl
        rotate_left
        · simp only [Act.put, List.setIfInBounds_toArray, List.set_cons_zero, List.set_cons_succ, i64_w, i32_w]
          rfl
        refine take_ (i := 4) (N := some 23) (v := ?_) (a' := ?_) #[true, true, true, true, true, false, false, false, false, false, false, false, false, false, false, false, false, false, false, false, false, false, false, false] rfl rfl (by kernel_rfl) (fun _ _ _ h => h) (Or.inl ⟨by rfl, ?_⟩) hHeld ?_ ?_
        rotate_left
        · rintro w' hS
          have q_hd2 := bcell hS hd2
          have q_hx2 := bcell hS hx2
          have q_hy2 := bcell hS hy2
          go_simp
          with_reducible rfl
        rotate_left
        · simp only [Act.put, List.setIfInBounds_toArray, List.set_cons_zero, List.set_cons_succ, i64_w, i32_w]
          rfl
        refine pure_ (i := 5) (N := some 24) (v := ?_) (a' := ?_) #[true, true, true, true, true, true, false, false, false, false, false, false, false, false, false, false, false, false, false, false, false, false, false, false] rfl rfl (by kernel_rfl) (fun _ _ _ h => h) (Or.inl ⟨by rfl, ?_⟩) ?_ ?_
        rotate_left
        · intro w'
          go_simp
          with_reducible rfl
        rotate_left
        · simp only [Act.put, List.setIfInBounds_toArray, List.set_cons_zero, List.set_cons_succ, i64_w, i32_w]
          rfl
        refine pure_ (i := 6) (N := some 25) (v := ?_) (a' := ?_) #[true, true, true, true, true, true, true, false, false, false, false, false, false, false, false, false, false, false, false, false, false, false, false, false] rfl rfl (by kernel_rfl) (fun _ _ _ h => h) (Or.inl ⟨by rfl, ?_⟩) ?_ ?_
        rotate_left
        · intro w'
          go_simp
          with_reducible rfl
        rotate_left
        · simp only [Act.put, List.setIfInBounds_toArray, List.set_cons_zero, List.set_cons_succ, i64_w, i32_w]
          rfl
        refine pure_ (i := 7) (N := some 26) (v := ?_) (a' := ?_) #[true, true, true, true, true, true, true, true, false, false, false, false, false, false, false, false, false, false, false, false, false, false, false, false] rfl rfl (by kernel_rfl) (fun _ _ _ h => h) (Or.inl ⟨by rfl, ?_⟩) ?_ ?_
        rotate_left
        · intro w'
          go_simp
          with_reducible rfl
        rotate_left
        · simp only [Act.put, List.setIfInBounds_toArray, List.set_cons_zero, List.set_cons_succ, i64_w, i32_w]
          rfl
        refine take_ (i := 8) (N := some 27) (v := ?_) (a' := ?_) #[true, true, true, true, true, true, true, true, true, false, false, false, false, false, false, false, false, false, false, false, false, false, false, false] rfl rfl (by kernel_rfl) (fun _ _ _ h => h) (Or.inl ⟨by rfl, ?_⟩) hHeld ?_ ?_
        rotate_left
        · rintro w' hS
          have q_hd2 := bcell hS hd2
          have q_hx2 := bcell hS hx2
          have q_hy2 := bcell hS hy2
          go_simp
          with_reducible rfl
        rotate_left
        · simp only [Act.put, List.setIfInBounds_toArray, List.set_cons_zero, List.set_cons_succ, i64_w, i32_w]
          rfl
        refine pure_ (i := 11) (N := some 30) (v := ?_) (a' := ?_) #[true, true, true, true, true, true, true, true, true, false, false, true, false, false, false, false, false, false, false, false, false, false, false, false] rfl rfl (by kernel_rfl) (fun _ _ _ h => h) (Or.inl ⟨by rfl, ?_⟩) ?_ ?_
        rotate_left
        · intro w'
          go_simp
          with_reducible rfl
        rotate_left
        · simp only [Act.put, List.setIfInBounds_toArray, List.set_cons_zero, List.set_cons_succ, i64_w, i32_w]
          rfl
        refine pure_ (i := 12) (N := some 31) (v := ?_) (a' := ?_) #[true, true, true, true, true, true, true, true, true, false, false, true, true, false, false, false, false, false, false, false, false, false, false, false] rfl rfl (by kernel_rfl) (fun _ _ _ h => h) (Or.inl ⟨by rfl, ?_⟩) ?_ ?_
        rotate_left
        · intro w'
          go_simp
          with_reducible rfl
        rotate_left
        · simp only [Act.put, List.setIfInBounds_toArray, List.set_cons_zero, List.set_cons_succ, i64_w, i32_w]
          rfl
        refine pure_ (i := 13) (N := some 32) (v := ?_) (a' := ?_) #[true, true, true, true, true, true, true, true, true, false, false, true, true, true, false, false, false, false, false, false, false, false, false, false] rfl rfl (by kernel_rfl) (fun _ _ _ h => h) (Or.inl ⟨by rfl, ?_⟩) ?_ ?_
        rotate_left
        · intro w'
          go_simp
          with_reducible rfl
        rotate_left
        · simp only [Act.put, List.setIfInBounds_toArray, List.set_cons_zero, List.set_cons_succ, i64_w, i32_w]
          rfl
        refine take_ (i := 14) (N := some 33) (v := ?_) (a' := ?_) #[true, true, true, true, true, true, true, true, true, false, false, true, true, true, true, false, false, false, false, false, false, false, false, false] rfl rfl (by kernel_rfl) (fun _ _ _ h => h) (Or.inl ⟨by rfl, ?_⟩) hHeld ?_ ?_
        rotate_left
        · rintro w' hS
          have q_hd2 := bcell hS hd2
          have q_hx2 := bcell hS hx2
          have q_hy2 := bcell hS hy2
          go_simp
          with_reducible rfl
        rotate_left
        · simp only [Act.put, List.setIfInBounds_toArray, List.set_cons_zero, List.set_cons_succ, i64_w, i32_w]
          rfl
        refine pure_ (i := 15) (N := some 34) (v := ?_) (a' := ?_) #[true, true, true, true, true, true, true, true, true, false, false, true, true, true, true, true, false, false, false, false, false, false, false, false] rfl rfl (by kernel_rfl) (fun _ _ _ h => h) (Or.inl ⟨by rfl, ?_⟩) ?_ ?_
        rotate_left
        · intro w'
          go_simp
          with_reducible rfl
        rotate_left
        · simp only [Act.put, List.setIfInBounds_toArray, List.set_cons_zero, List.set_cons_succ, i64_w, i32_w]
          rfl
        refine pure_ (i := 16) (N := some 35) (v := ?_) (a' := ?_) #[true, true, true, true, true, true, true, true, true, false, false, true, true, true, true, true, true, false, false, false, false, false, false, false] rfl rfl (by kernel_rfl) (fun _ _ _ h => h) (Or.inl ⟨by rfl, ?_⟩) ?_ ?_
        rotate_left
        · intro w'
          go_simp
          with_reducible rfl
        rotate_left
        · simp only [Act.put, List.setIfInBounds_toArray, List.set_cons_zero, List.set_cons_succ, i64_w, i32_w]
          rfl
        refine pure_ (i := 17) (N := some 36) (v := ?_) (a' := ?_) #[true, true, true, true, true, true, true, true, true, false, false, true, true, true, true, true, true, true, false, false, false, false, false, false] rfl rfl (by kernel_rfl) (fun _ _ _ h => h) (Or.inl ⟨by rfl, ?_⟩) ?_ ?_
        rotate_left
        · intro w'
          go_simp
          with_reducible rfl
        rotate_left
        · simp only [Act.put, List.setIfInBounds_toArray, List.set_cons_zero, List.set_cons_succ, i64_w, i32_w]
          rfl
        refine take_ (i := 18) (N := some 37) (v := ?_) (a' := ?_) #[true, true, true, true, true, true, true, true, true, false, false, true, true, true, true, true, true, true, true, false, false, false, false, false] rfl rfl (by kernel_rfl) (fun _ _ _ h => h) (Or.inl ⟨by rfl, ?_⟩) hHeld ?_ ?_
        rotate_left
        · rintro w' hS
          have q_hd2 := bcell hS hd2
          have q_hx2 := bcell hS hx2
          have q_hy2 := bcell hS hy2
          go_simp
          with_reducible rfl
        rotate_left
        · simp only [Act.put, List.setIfInBounds_toArray, List.set_cons_zero, List.set_cons_succ, i64_w, i32_w]
          rfl
        refine pure_ (i := 19) (N := some 38) (v := ?_) (a' := ?_) #[true, true, true, true, true, true, true, true, true, false, false, true, true, true, true, true, true, true, true, true, false, false, false, false] rfl rfl (by kernel_rfl) (fun _ _ _ h => h) (Or.inl ⟨by rfl, ?_⟩) ?_ ?_
        rotate_left
        · intro w'
          go_simp
          with_reducible rfl
        rotate_left
        · simp only [Act.put, List.setIfInBounds_toArray, List.set_cons_zero, List.set_cons_succ, i64_w, i32_w]
          rfl
        refine two_ (i := 9) (j := 20) (Ni := some 28) (Nj := some 39) #[true, true, true, true, true, true, true, true, true, true, false, true, true, true, true, true, true, true, true, true, false, false, false, false] #[true, true, true, true, true, true, true, true, true, false, false, true, true, true, true, true, true, true, true, true, true, false, false, false] rfl rfl rfl rfl (by kernel_rfl) (by decide) (by decide) (fun K hK => ?_) (fun K hK => ?_)
        · skip
          refine Kd.R_lit_step (Kd.int .u8) _ 5 ?hgu1 (N := 28) ?hdu1 (xs := ([(rd_T56 l0 (k : Int)).f0] : List Int)) (inner := [.int .u8 (rd_T56 l0 (k : Int)).f0]) (ok := fun _ => True) (okp := fun _ => True) ?hru1 ?hpu1 (fun _ hk => hk) trivial (Below.refl _ _) (Nat.le_refl _) (by simp) ?_
          (case hdu1 => rfl)
          (case hgu1 => rfl)
          (case hru1 => first | (go_simp; done) | (go_simp; rfl))
          (case hpu1 => exact (Reps.one (show Kd.M (Kd.int .u8) _ _ _ (rd_T56 l0 (k : Int)).f0 [.int .u8 (rd_T56 l0 (k : Int)).f0] from rfl) (Reps.none _ _)))
          intro vl wz ho hb hg_ hnew_
          clear hg_ hnew_
          have HL := Lib.hid ho
          clear ho
          have hS_ := below_step hHeld hb
          clear hb hHeld
          refine hK.out _ _ hS_ (fun hHeld => ?_)
          clear hK K hS_
          refine norm_ (a' := ?_) ?_ ?_
          rotate_left
          · show Act.put _ (some 28) _ = _
            simp only [Act.put, List.setIfInBounds_toArray, List.set_cons_zero, List.set_cons_succ, i64_w, i32_w]
            rfl
          refine two_ (i := 10) (j := 20) (Ni := some 29) (Nj := some 39) #[true, true, true, true, true, true, true, true, true, true, true, true, true, true, true, true, true, true, true, true, false, false, false, false] #[true, true, true, true, true, true, true, true, true, true, false, true, true, true, true, true, true, true, true, true, true, false, false, false] rfl rfl rfl rfl (by kernel_rfl) (by decide) (by decide) (fun K hK => ?_) (fun K hK => ?_)
          · skip
            have hcv := own_string (P := Tryd.prog) Tryd.underlying57 Tryd.underlying5 Tryd.underlying9 (Kd.own_of_R HL.out)
            rw [← HSB.out] at hcv
            refine value_ (w1 := ?_) (v := ?_) (by rfl) rfl ?_ ?_
            rotate_left 2
            · go_simp
              constructor
              · rfl
              · rfl
            clear hcv HL
            refine hK.out _ _ hHeld (fun hHeld => ?_)
            clear hK K
            refine norm_ (a' := ?_) ?_ ?_
            rotate_left
            · show Act.put _ (some 29) _ = _
              simp only [Act.put, List.setIfInBounds_toArray, List.set_cons_zero, List.set_cons_succ, i64_w, i32_w]
              rfl
            refine one_ (i := 20) (N := some 39) #[true, true, true, true, true, true, true, true, true, true, true, true, true, true, true, true, true, true, true, true, true, false, false, false] rfl rfl (by kernel_rfl) (by decide) (fun K hK => ?_)
            refine goes_ Tryd.func51 (by kernel_rfl) rfl #[.int .i64 (wrap64 (rd_T56 l0 (k : Int)).f1)] (by rfl) rfl rfl (by (try simp only [List.map_toArray, List.map_cons, List.map_nil]); first | done | rfl | (simp only [List.length_drop, List.length_take]; rfl)) ?_
            with_reducible refine (spec_Decimal.calls 18 (wrap64 (rd_T56 l0 (k : Int)).f1) ib _ HD.out).mono ?_
            rintro e wz ⟨rfl, hb⟩
            refine ⟨_, rfl, ?_⟩
            have hS_ := below_step hHeld hb
            clear hb hHeld
            refine hK.out _ _ hS_ (fun hHeld => ?_)
            clear hK K hS_
            refine norm_ (a' := ?_) ?_ ?_
            rotate_left
            · show Act.put _ (some 39) _ = _
              simp only [Act.put, List.setIfInBounds_toArray, List.set_cons_zero, List.set_cons_succ, i64_w, i32_w]
              rfl
            refine pure_ (i := 21) (N := some 40) (v := ?_) (a' := ?_) #[true, true, true, true, true, true, true, true, true, true, true, true, true, true, true, true, true, true, true, true, true, true, false, false] rfl rfl (by kernel_rfl) (fun _ _ _ h => h) (Or.inl ⟨by rfl, ?_⟩) ?_ ?_
            rotate_left
            · intro w'
              go_simp
              with_reducible rfl
            rotate_left
            · simp only [Act.put, List.setIfInBounds_toArray, List.set_cons_zero, List.set_cons_succ, i64_w, i32_w]
              rfl
            refine pure_ (i := 22) (N := some 41) (v := ?_) (a' := ?_) #[true, true, true, true, true, true, true, true, true, true, true, true, true, true, true, true, true, true, true, true, true, true, true, false] rfl rfl (by kernel_rfl) (fun _ _ _ h => h) (Or.inl ⟨by rfl, ?_⟩) ?_ ?_
            rotate_left
            · intro w'
              go_simp
              with_reducible rfl
            rotate_left
            · simp only [Act.put, List.setIfInBounds_toArray, List.set_cons_zero, List.set_cons_succ, i64_w, i32_w]
              rfl
            refine pure_ (i := 23) (N := some 3) (v := ?_) (a' := ?_) #[true, true, true, true, true, true, true, true, true, true, true, true, true, true, true, true, true, true, true, true, true, true, true, true] rfl rfl (by kernel_rfl) (fun _ _ _ h => h) (Or.inl ⟨by rfl, ?_⟩) ?_ ?_
            rotate_left
            · intro w'
              go_simp
              with_reducible rfl
            rotate_left
            · simp only [Act.put, List.setIfInBounds_toArray, List.set_cons_zero, List.set_cons_succ, i64_w, i32_w]
              rfl
            refine done_ (by kernel_rfl) ?_
            go_wp2
            go_roundw
            case measure => simp only [intOf]; omega
            case rel => exact ⟨k + 1, _, by omega, rfl, by go_num, PS, Lib.hid (HI2.out.below hHeld), Lib.hid (below_step HW2.out hHeld)⟩
          · skip
            refine goes_ Tryd.func51 (by kernel_rfl) rfl #[.int .i64 (wrap64 (rd_T56 l0 (k : Int)).f1)] (by rfl) rfl rfl (by (try simp only [List.map_toArray, List.map_cons, List.map_nil]); first | done | rfl | (simp only [List.length_drop, List.length_take]; rfl)) ?_
            with_reducible refine (spec_Decimal.calls 18 (wrap64 (rd_T56 l0 (k : Int)).f1) ib _ HD.out).mono ?_
            rintro e wz ⟨rfl, hb⟩
            refine ⟨_, rfl, ?_⟩
            have m_HL := Lib.hid (Kd.R_below HL.out hb)
            clear HL
            have HL := m_HL
            clear m_HL
            have hS_ := below_step hHeld hb
            clear hb hHeld
            refine hK.out _ _ hS_ (fun hHeld => ?_)
            clear hK K hS_
            refine norm_ (a' := ?_) ?_ ?_
            rotate_left
            · show Act.put _ (some 39) _ = _
              simp only [Act.put, List.setIfInBounds_toArray, List.set_cons_zero, List.set_cons_succ, i64_w, i32_w]
              rfl
            refine one_ (i := 10) (N := some 29) #[true, true, true, true, true, true, true, true, true, true, true, true, true, true, true, true, true, true, true, true, true, false, false, false] rfl rfl (by kernel_rfl) (by decide) (fun K hK => ?_)
            have hcv := own_string (P := Tryd.prog) Tryd.underlying57 Tryd.underlying5 Tryd.underlying9 (Kd.own_of_R HL.out)
            rw [← HSB.out] at hcv
            refine value_ (w1 := ?_) (v := ?_) (by rfl) rfl ?_ ?_
            rotate_left 2
            · go_simp
              constructor
              · rfl
              · rfl
            clear hcv HL
            refine hK.out _ _ hHeld (fun hHeld => ?_)
            clear hK K
            refine norm_ (a' := ?_) ?_ ?_
            rotate_left
            · show Act.put _ (some 29) _ = _
              simp only [Act.put, List.setIfInBounds_toArray, List.set_cons_zero, List.set_cons_succ, i64_w, i32_w]
              rfl
            refine pure_ (i := 21) (N := some 40) (v := ?_) (a' := ?_) #[true, true, true, true, true, true, true, true, true, true, true, true, true, true, true, true, true, true, true, true, true, true, false, false] rfl rfl (by kernel_rfl) (fun _ _ _ h => h) (Or.inl ⟨by rfl, ?_⟩) ?_ ?_
            rotate_left
            · intro w'
              go_simp
              with_reducible rfl
            rotate_left
            · simp only [Act.put, List.setIfInBounds_toArray, List.set_cons_zero, List.set_cons_succ, i64_w, i32_w]
              rfl
            refine pure_ (i := 22) (N := some 41) (v := ?_) (a' := ?_) #[true, true, true, true, true, true, true, true, true, true, true, true, true, true, true, true, true, true, true, true, true, true, true, false] rfl rfl (by kernel_rfl) (fun _ _ _ h => h) (Or.inl ⟨by rfl, ?_⟩) ?_ ?_
            rotate_left
            · intro w'
              go_simp
              with_reducible rfl
            rotate_left
            · simp only [Act.put, List.setIfInBounds_toArray, List.set_cons_zero, List.set_cons_succ, i64_w, i32_w]
              rfl
            refine pure_ (i := 23) (N := some 3) (v := ?_) (a' := ?_) #[true, true, true, true, true, true, true, true, true, true, true, true, true, true, true, true, true, true, true, true, true, true, true, true] rfl rfl (by kernel_rfl) (fun _ _ _ h => h) (Or.inl ⟨by rfl, ?_⟩) ?_ ?_
            rotate_left
            · intro w'
              go_simp
              with_reducible rfl
            rotate_left
            · simp only [Act.put, List.setIfInBounds_toArray, List.set_cons_zero, List.set_cons_succ, i64_w, i32_w]
              rfl
            refine done_ (by kernel_rfl) ?_
            go_wp2
            go_roundw
            case measure => simp only [intOf]; omega
            case rel => exact ⟨k + 1, _, by omega, rfl, by go_num, PS, Lib.hid (HI2.out.below hHeld), Lib.hid (below_step HW2.out hHeld)⟩
        · skip
          refine goes_ Tryd.func51 (by kernel_rfl) rfl #[.int .i64 (wrap64 (rd_T56 l0 (k : Int)).f1)] (by rfl) rfl rfl (by (try simp only [List.map_toArray, List.map_cons, List.map_nil]); first | done | rfl | (simp only [List.length_drop, List.length_take]; rfl)) ?_
          with_reducible refine (spec_Decimal.calls 18 (wrap64 (rd_T56 l0 (k : Int)).f1) ib _ HD.out).mono ?_
          rintro e wz ⟨rfl, hb⟩
          refine ⟨_, rfl, ?_⟩
          have hS_ := below_step hHeld hb
          clear hb hHeld
          refine hK.out _ _ hS_ (fun hHeld => ?_)
          clear hK K hS_
          refine norm_ (a' := ?_) ?_ ?_
          rotate_left
          · show Act.put _ (some 39) _ = _
            simp only [Act.put, List.setIfInBounds_toArray, List.set_cons_zero, List.set_cons_succ, i64_w, i32_w]
            rfl
          refine one_ (i := 9) (N := some 28) #[true, true, true, true, true, true, true, true, true, true, false, true, true, true, true, true, true, true, true, true, true, false, false, false] rfl rfl (by kernel_rfl) (by decide) (fun K hK => ?_)
          refine Kd.R_lit_step (Kd.int .u8) _ 5 ?hgu2 (N := 28) ?hdu2 (xs := ([(rd_T56 l0 (k : Int)).f0] : List Int)) (inner := [.int .u8 (rd_T56 l0 (k : Int)).f0]) (ok := fun _ => True) (okp := fun _ => True) ?hru2 ?hpu2 (fun _ hk => hk) trivial (Below.refl _ _) (Nat.le_refl _) (by simp) ?_
          (case hdu2 => rfl)
          (case hgu2 => rfl)
          (case hru2 => first | (go_simp; done) | (go_simp; rfl))
          (case hpu2 => exact (Reps.one (show Kd.M (Kd.int .u8) _ _ _ (rd_T56 l0 (k : Int)).f0 [.int .u8 (rd_T56 l0 (k : Int)).f0] from rfl) (Reps.none _ _)))
          intro vl wz ho hb hg_ hnew_
          clear hg_ hnew_
          have HL := Lib.hid ho
          clear ho
          have hS_ := below_step hHeld hb
          clear hb hHeld
          refine hK.out _ _ hS_ (fun hHeld => ?_)
          clear hK K hS_
          refine norm_ (a' := ?_) ?_ ?_
          rotate_left
          · show Act.put _ (some 28) _ = _
            simp only [Act.put, List.setIfInBounds_toArray, List.set_cons_zero, List.set_cons_succ, i64_w, i32_w]
            rfl
          refine one_ (i := 10) (N := some 29) #[true, true, true, true, true, true, true, true, true, true, true, true, true, true, true, true, true, true, true, true, true, false, false, false] rfl rfl (by kernel_rfl) (by decide) (fun K hK => ?_)
          have hcv := own_string (P := Tryd.prog) Tryd.underlying57 Tryd.underlying5 Tryd.underlying9 (Kd.own_of_R HL.out)
          rw [← HSB.out] at hcv
          refine value_ (w1 := ?_) (v := ?_) (by rfl) rfl ?_ ?_
          rotate_left 2
          · go_simp
            constructor
            · rfl
            · rfl
          clear hcv HL
          refine hK.out _ _ hHeld (fun hHeld => ?_)
          clear hK K
          refine norm_ (a' := ?_) ?_ ?_
          rotate_left
          · show Act.put _ (some 29) _ = _
            simp only [Act.put, List.setIfInBounds_toArray, List.set_cons_zero, List.set_cons_succ, i64_w, i32_w]
            rfl
          refine pure_ (i := 21) (N := some 40) (v := ?_) (a' := ?_) #[true, true, true, true, true, true, true, true, true, true, true, true, true, true, true, true, true, true, true, true, true, true, false, false] rfl rfl (by kernel_rfl) (fun _ _ _ h => h) (Or.inl ⟨by rfl, ?_⟩) ?_ ?_
          rotate_left
          · intro w'
            go_simp
            with_reducible rfl
          rotate_left
          · simp only [Act.put, List.setIfInBounds_toArray, List.set_cons_zero, List.set_cons_succ, i64_w, i32_w]
            rfl
          refine pure_ (i := 22) (N := some 41) (v := ?_) (a' := ?_) #[true, true, true, true, true, true, true, true, true, true, true, true, true, true, true, true, true, true, true, true, true, true, true, false] rfl rfl (by kernel_rfl) (fun _ _ _ h => h) (Or.inl ⟨by rfl, ?_⟩) ?_ ?_
          rotate_left
          · intro w'
            go_simp
            with_reducible rfl
          rotate_left
          · simp only [Act.put, List.setIfInBounds_toArray, List.set_cons_zero, List.set_cons_succ, i64_w, i32_w]
            rfl
          refine pure_ (i := 23) (N := some 3) (v := ?_) (a' := ?_) #[true, true, true, true, true, true, true, true, true, true, true, true, true, true, true, true, true, true, true, true, true, true, true, true] rfl rfl (by kernel_rfl) (fun _ _ _ h => h) (Or.inl ⟨by rfl, ?_⟩) ?_ ?_
          rotate_left
          · intro w'
            go_simp
            with_reducible rfl
          rotate_left
          · simp only [Act.put, List.setIfInBounds_toArray, List.set_cons_zero, List.set_cons_succ, i64_w, i32_w]
            rfl
          refine done_ (by kernel_rfl) ?_
          go_wp2
          go_roundw
          case measure => simp only [intOf]; omega
          case rel => exact ⟨k + 1, _, by omega, rfl, by go_num, PS, Lib.hid (HI2.out.below hHeld), Lib.hid (below_step HW2.out hHeld)⟩
    · have hlt2 : ¬ (k : Int) < (l0.length : Int) := by omega
      have e1 : l0.take k = l0 := List.take_of_length_le (by omega)
      have z1 := (SZ.out k).1
      rw [← PE.out] at z1
      have PE2 := Lib.hid (show pt ++ (⟨#[59]⟩ : ByteArray) = joinB (l0.map sgT) blankT ++ semiT from by rw [PE.out, e1]; rfl)
      have c2a : decide (pt.size + 1 ≤ 9223372036854775807) = true := decide_eq_true (by omega)
      have c2b : (9223372036854775807 < pt.size + 1) = False := eq_false (by omega)
      have c3a : decide (pt.size + (⟨#[59]⟩ : ByteArray).size ≤ 9223372036854775807) = true := decide_eq_true (by have e1 : (⟨#[59]⟩ : ByteArray).size = 1 := rfl; omega)
      have c3b : (9223372036854775807 < pt.size + (⟨#[59]⟩ : ByteArray).size) = False := eq_false (by have e1 : (⟨#[59]⟩ : ByteArray).size = 1 := rfl; omega)
      go_wp2
      clear hd0 hd1 HR0 c2a c2b c3a c3b
      obtain ⟨LF, HLF⟩ : ∃ LF : ByteArray, LF = pt ++ (⟨#[59]⟩ : ByteArray) := ⟨_, rfl⟩
      have zl : LF.size ≤ 57 := by rw [HLF, ByteArray.size_append]; show _ + 1 ≤ 57; omega
      rw [← HLF] at PE2 ⊢
      clear HLF
      go_loopw [3, 5] (fun v i wr => ∃ (j : Nat) (pt : ByteArray), j ≤ l1.length ∧ v = .string pt ∧ i = .int .i64 j ∧ RowKit.Hid (pt = LF ++ joinB ((l1.take j).map mpT) blankT) ∧ RowKit.Hid (IsS30 w0 wr g l0 l1) ∧ RowKit.Hid (Below w0.heap.size w0 wr)) (fun _ i _ => l1.length - (intOf i).toNat)
      case atStart => exact ⟨0, _, Nat.zero_le _, rfl, rfl, Lib.hid (by rw [List.take_zero]; exact ByteArray.append_empty.symm), HI, HW⟩
      case round =>
        clear HI HW hlt2 PE z1
        obtain ⟨j, pt, hj, rfl, rfl, PE, HI, HW⟩ := hrel
        obtain ⟨A0, c0, A1, c1, hbk, hg, hr0, hr1⟩ := HI.out
        have HR1 := Lib.hid hr1
        have hd0 := (blk_cell hbk 0).trans rfl
        have hd1 := (blk_cell hbk 1).trans rfl
        clear hg hr0 hr1 hbk
        by_cases hlt : j < l1.length
        · have hlt2 : (j : Int) < (l1.length : Int) := by omega
          obtain ⟨ad4, ea, hx, hy⟩ := at_T59 (Kd.C_below HR1.out HW.out) (j : Nat) (by omega) (by omega)
          cases ea
          simp only [Int.toNat_natCast] at hx hy
          have EX := Lib.hid (rdA2_get _ _ hlt)
          have z1 : pt.size ≤ 113 := by rw [PE.out, ByteArray.size_append]; have := (MZ.out j).1; omega
          obtain ⟨pp, hpp⟩ : ∃ pp, pp = LF ++ preT mpT l1 j := ⟨_, rfl⟩
          have z2 : pp.size ≤ 114 := by rw [hpp, ByteArray.size_append]; have := (MZ.out j).2; omega
          obtain ⟨sb, hsb⟩ : ∃ sb, sb = strOfNums [(rd_T59 l1 (j : Int)).f0, (rd_T59 l1 (j : Int)).f1] := ⟨_, rfl⟩
          have z4 : sb.size = 2 := by rw [hsb]; rfl
          have PS := Lib.hid (show pp ++ sb = LF ++ joinB ((l1.take (j + 1)).map mpT) blankT from by have := preT_step mpT l1 j hlt; rw [← EX.out] at this; rw [hpp, hsb, ← this, ByteArray.append_assoc]; rfl)
          have HPP := Lib.hid hpp
          have HSB := Lib.hid hsb
          clear hpp hsb
          by_cases h0 : 0 < j
          · skip
            have c1 : decide (0 < (j : Int)) = true := decide_eq_true (by omega)
            have c2a : decide (pt.size + 1 ≤ 9223372036854775807) = true := decide_eq_true (by omega)
            have c2b : (9223372036854775807 < pt.size + 1) = False := eq_false (by omega)
            have c3a : decide (pt.size + (⟨#[32]⟩ : ByteArray).size ≤ 9223372036854775807) = true := decide_eq_true (by have e1 : (⟨#[32]⟩ : ByteArray).size = 1 := rfl; omega)
            have c3b : (9223372036854775807 < pt.size + (⟨#[32]⟩ : ByteArray).size) = False := eq_false (by have e1 : (⟨#[32]⟩ : ByteArray).size = 1 := rfl; omega)
            have y2a : decide (pp.size + sb.size ≤ 9223372036854775807) = true := decide_eq_true (by omega)
            have y2b : (9223372036854775807 < pp.size + sb.size) = False := eq_false (by omega)
            clear z1 z2 z4
            go_wp2
            clear c1 c2a c2b c3a c3b
            have ep : pt ++ (⟨#[32]⟩ : ByteArray) = pp := by rw [PE.out, HPP.out]; unfold preT; rw [if_pos h0, ByteArray.append_assoc]; rfl
            rw [ep]
            clear ep
            have HI2 := Lib.hid (show IsS30 w0 wr.drew g l0 l1 from HI.out.drew)
            have HW2 := Lib.hid (below_drew1 HW.out)
            have hd2 : wr.drew.cell? ⟨g, 1, none⟩ = some (.slice (some ad4) l1.length c1) := hd1
            have hx2 : wr.drew.cell? _ = _ := hx
            have hy2 : wr.drew.cell? _ = _ := hy
            clear HI HW hd0 hd1 hx hy
            refine start_ (n := 21) (S := fun w' => Below (wr).drew.heap.size (wr).drew w') (ds := []) #[false, false, false, false, false, false, false, false, false, false, false, false, false, false, false, false, false, false, false, false, false] (by kernel_rfl) rfl rfl (Below.refl _ _) (fun hHeld => ?_)
            generalize wr.drew = wq at HI2 HW2 hd2 hx2 hy2 hHeld ⊢
            refine pure_ (i := 0) (N := some 57) (v := ?_) (a' := ?_) #[true, false, false, false, false, false, false, false, false, false, false, false, false, false, false, false, false, false, false, false, false] rfl rfl (by kernel_rfl) (fun _ _ _ h => h) (Or.inl ⟨by rfl, ?_⟩) ?_ ?_
            rotate_left
            · intro w'
              go_simp
              with_reducible rfl
            rotate_left
            · simp only [Act.put, List.setIfInBounds_toArray, List.set_cons_zero, List.set_cons_succ, i64_w, i32_w]
              rfl
            refine pure_ (i := 1) (N := some 58) (v := ?_) (a' := ?_) #[true, true, false, false, false, false, false, false, false, false, false, false, false, false, false, false, false, false, false, false, false] rfl rfl (by kernel_rfl) (fun _ _ _ h => h) (Or.inl ⟨by rfl, ?_⟩) ?_ ?_
            rotate_left
            · intro w'
              go_simp
              with_reducible rfl
            rotate_left
            · simp only [Act.put, List.setIfInBounds_toArray, List.set_cons_zero, List.set_cons_succ, i64_w, i32_w]
              rfl
            refine pure_ (i := 2) (N := some 59) (v := ?_) (a' := ?_) #[true, true, true, false, false, false, false, false, false, false, false, false, false, false, false, false, false, false, false, false, false] rfl rfl (by kernel_rfl) (fun _ _ _ h => h) (Or.inl ⟨by rfl, ?_⟩) ?_ ?_
            rotate_left
            · intro w'
              go_simp
              with_reducible rfl
            rotate_left
            · simp only [Act.put, List.setIfInBounds_toArray, List.set_cons_zero, List.set_cons_succ, i64_w, i32_w]
              rfl
            refine pure_ (i := 3) (N := some 60) (v := ?_) (a' := ?_) #[true, true, true, true, false, false, false, false, false, false, false, false, false, false, false, false, false, false, false, false, false] rfl rfl (by kernel_rfl) (fun _ _ _ h => h) (Or.inl ⟨by rfl, ?_⟩) ?_ ?_
            rotate_left
            · intro w'
              go_simp
              with_reducible rfl
            rotate_left
            · simp only [Act.put, List.setIfInBounds_toArray, List.set_cons_zero, List.set_cons_succ, i64_w, i32_w]
              rfl
            refine take_ (i := 4) (N := some 61) (v := ?_) (a' := ?_) #[true, true, true, true, true, false, false, false, false, false, false, false, false, false, false, false, false, false, false, false, false] rfl rfl (by kernel_rfl) (fun _ _ _ h => h) (Or.inl ⟨by rfl, ?_⟩) hHeld ?_ ?_
            rotate_left
            · rintro w' hS
              have q_hd2 := bcell hS hd2
              have q_hx2 := bcell hS hx2
              have q_hy2 := bcell hS hy2
              go_simp
              with_reducible rfl
            rotate_left
            · simp only [Act.put, List.setIfInBounds_toArray, List.set_cons_zero, List.set_cons_succ, i64_w, i32_w]
              rfl
            refine pure_ (i := 5) (N := some 62) (v := ?_) (a' := ?_) #[true, true, true, true, true, true, false, false, false, false, false, false, false, false, false, false, false, false, false, false, false] rfl rfl (by kernel_rfl) (fun _ _ _ h => h) (Or.inl ⟨by rfl, ?_⟩) ?_ ?_
            rotate_left
            · intro w'
              go_simp
              with_reducible rfl
            rotate_left
            · simp only [Act.put, List.setIfInBounds_toArray, List.set_cons_zero, List.set_cons_succ, i64_w, i32_w]
              rfl
            refine pure_ (i := 6) (N := some 63) (v := ?_) (a' := ?_) #[true, true, true, true, true, true, true, false, false, false, false, false, false, false, false, false, false, false, false, false, false] rfl rfl (by kernel_rfl) (fun _ _ _ h => h) (Or.inl ⟨by rfl, ?_⟩) ?_ ?_
            rotate_left
            · intro w'
              go_simp
              with_reducible rfl
            rotate_left
            · simp only [Act.put, List.setIfInBounds_toArray, List.set_cons_zero, List.set_cons_succ, i64_w, i32_w]
              rfl
            refine pure_ (i := 7) (N := some 64) (v := ?_) (a' := ?_) #[true, true, true, true, true, true, true, true, false, false, false, false, false, false, false, false, false, false, false, false, false] rfl rfl (by kernel_rfl) (fun _ _ _ h => h) (Or.inl ⟨by rfl, ?_⟩) ?_ ?_
            rotate_left
            · intro w'
              go_simp
              with_reducible rfl
            rotate_left
            · simp only [Act.put, List.setIfInBounds_toArray, List.set_cons_zero, List.set_cons_succ, i64_w, i32_w]
              rfl
            refine take_ (i := 8) (N := some 65) (v := ?_) (a' := ?_) #[true, true, true, true, true, true, true, true, true, false, false, false, false, false, false, false, false, false, false, false, false] rfl rfl (by kernel_rfl) (fun _ _ _ h => h) (Or.inl ⟨by rfl, ?_⟩) hHeld ?_ ?_
            rotate_left
            · rintro w' hS
              have q_hd2 := bcell hS hd2
              have q_hx2 := bcell hS hx2
              have q_hy2 := bcell hS hy2
              go_simp
              with_reducible rfl
            rotate_left
            · simp only [Act.put, List.setIfInBounds_toArray, List.set_cons_zero, List.set_cons_succ, i64_w, i32_w]
              rfl
            refine pure_ (i := 9) (N := some 66) (v := ?_) (a' := ?_) #[true, true, true, true, true, true, true, true, true, true, false, false, false, false, false, false, false, false, false, false, false] rfl rfl (by kernel_rfl) (fun _ _ _ h => h) (Or.inl ⟨by rfl, ?_⟩) ?_ ?_
            rotate_left
            · intro w'
              go_simp
              with_reducible rfl
            rotate_left
            · simp only [Act.put, List.setIfInBounds_toArray, List.set_cons_zero, List.set_cons_succ, i64_w, i32_w]
              rfl
            refine pure_ (i := 10) (N := some 67) (v := ?_) (a' := ?_) #[true, true, true, true, true, true, true, true, true, true, true, false, false, false, false, false, false, false, false, false, false] rfl rfl (by kernel_rfl) (fun _ _ _ h => h) (Or.inl ⟨by rfl, ?_⟩) ?_ ?_
            rotate_left
            · intro w'
              go_simp
              with_reducible rfl
            rotate_left
            · simp only [Act.put, List.setIfInBounds_toArray, List.set_cons_zero, List.set_cons_succ, i64_w, i32_w]
              rfl
            refine pure_ (i := 11) (N := some 68) (v := ?_) (a' := ?_) #[true, true, true, true, true, true, true, true, true, true, true, true, false, false, false, false, false, false, false, false, false] rfl rfl (by kernel_rfl) (fun _ _ _ h => h) (Or.inl ⟨by rfl, ?_⟩) ?_ ?_
            rotate_left
            · intro w'
              go_simp
              with_reducible rfl
            rotate_left
            · simp only [Act.put, List.setIfInBounds_toArray, List.set_cons_zero, List.set_cons_succ, i64_w, i32_w]
              rfl
            refine take_ (i := 12) (N := some 69) (v := ?_) (a' := ?_) #[true, true, true, true, true, true, true, true, true, true, true, true, true, false, false, false, false, false, false, false, false] rfl rfl (by kernel_rfl) (fun _ _ _ h => h) (Or.inl ⟨by rfl, ?_⟩) hHeld ?_ ?_
            rotate_left
            · rintro w' hS
              have q_hd2 := bcell hS hd2
              have q_hx2 := bcell hS hx2
              have q_hy2 := bcell hS hy2
              go_simp
              with_reducible rfl
            rotate_left
            · simp only [Act.put, List.setIfInBounds_toArray, List.set_cons_zero, List.set_cons_succ, i64_w, i32_w]
              rfl
            refine pure_ (i := 13) (N := some 70) (v := ?_) (a' := ?_) #[true, true, true, true, true, true, true, true, true, true, true, true, true, true, false, false, false, false, false, false, false] rfl rfl (by kernel_rfl) (fun _ _ _ h => h) (Or.inl ⟨by rfl, ?_⟩) ?_ ?_
            rotate_left
            · intro w'
              go_simp
              with_reducible rfl
            rotate_left
            · simp only [Act.put, List.setIfInBounds_toArray, List.set_cons_zero, List.set_cons_succ, i64_w, i32_w]
              rfl
            refine pure_ (i := 14) (N := some 71) (v := ?_) (a' := ?_) #[true, true, true, true, true, true, true, true, true, true, true, true, true, true, true, false, false, false, false, false, false] rfl rfl (by kernel_rfl) (fun _ _ _ h => h) (Or.inl ⟨by rfl, ?_⟩) ?_ ?_
            rotate_left
            · intro w'
              go_simp
              with_reducible rfl
            rotate_left
            · simp only [Act.put, List.setIfInBounds_toArray, List.set_cons_zero, List.set_cons_succ, i64_w, i32_w]
              rfl
            refine pure_ (i := 15) (N := some 72) (v := ?_) (a' := ?_) #[true, true, true, true, true, true, true, true, true, true, true, true, true, true, true, true, false, false, false, false, false] rfl rfl (by kernel_rfl) (fun _ _ _ h => h) (Or.inl ⟨by rfl, ?_⟩) ?_ ?_
            rotate_left
            · intro w'
              go_simp
              with_reducible rfl
            rotate_left
            · simp only [Act.put, List.setIfInBounds_toArray, List.set_cons_zero, List.set_cons_succ, i64_w, i32_w]
              rfl
            refine take_ (i := 16) (N := some 73) (v := ?_) (a' := ?_) #[true, true, true, true, true, true, true, true, true, true, true, true, true, true, true, true, true, false, false, false, false] rfl rfl (by kernel_rfl) (fun _ _ _ h => h) (Or.inl ⟨by rfl, ?_⟩) hHeld ?_ ?_
            rotate_left
            · rintro w' hS
              have q_hd2 := bcell hS hd2
              have q_hx2 := bcell hS hx2
              have q_hy2 := bcell hS hy2
              go_simp
              with_reducible rfl
            rotate_left
            · simp only [Act.put, List.setIfInBounds_toArray, List.set_cons_zero, List.set_cons_succ, i64_w, i32_w]
              rfl
            refine one_ (i := 17) (N := some 74) #[true, true, true, true, true, true, true, true, true, true, true, true, true, true, true, true, true, true, false, false, false] rfl rfl (by kernel_rfl) (by decide) (fun K hK => ?_)
            refine Kd.R_lit_step (Kd.int .u8) _ 5 ?hgu1 (N := 74) ?hdu1 (xs := ([(rd_T59 l1 (j : Int)).f0, (rd_T59 l1 (j : Int)).f1] : List Int)) (inner := [.int .u8 (rd_T59 l1 (j : Int)).f0, .int .u8 (rd_T59 l1 (j : Int)).f1]) (ok := fun _ => True) (okp := fun _ => True) ?hru1 ?hpu1 (fun _ hk => hk) trivial (Below.refl _ _) (Nat.le_refl _) (by simp) ?_
            (case hdu1 => rfl)
            (case hgu1 => rfl)
            (case hru1 => first | (go_simp; done) | (go_simp; rfl))
            (case hpu1 => exact (Reps.one (show Kd.M (Kd.int .u8) _ _ _ (rd_T59 l1 (j : Int)).f0 [.int .u8 (rd_T59 l1 (j : Int)).f0] from rfl) (Reps.one (show Kd.M (Kd.int .u8) _ _ _ (rd_T59 l1 (j : Int)).f1 [.int .u8 (rd_T59 l1 (j : Int)).f1] from rfl) (Reps.none _ _))))
            intro vl wz ho hb hg_ hnew_
            clear hg_ hnew_
            have HLT := Lib.hid ho
            clear ho
            have hS_ := below_step hHeld hb
            clear hb hHeld
            refine hK.out _ _ hS_ (fun hHeld => ?_)
            clear hK K hS_
            refine norm_ (a' := ?_) ?_ ?_
            rotate_left
            · show Act.put _ (some 74) _ = _
              simp only [Act.put, List.setIfInBounds_toArray, List.set_cons_zero, List.set_cons_succ, i64_w, i32_w]
              rfl
            refine one_ (i := 18) (N := some 75) #[true, true, true, true, true, true, true, true, true, true, true, true, true, true, true, true, true, true, true, false, false] rfl rfl (by kernel_rfl) (by decide) (fun K hK => ?_)
            have hcv := own_string (P := Tryd.prog) Tryd.underlying57 Tryd.underlying5 Tryd.underlying9 (Kd.own_of_R HLT.out)
            rw [← HSB.out] at hcv
            refine value_ (w1 := ?_) (v := ?_) (by rfl) rfl ?_ ?_
            rotate_left 2
            · go_simp
              constructor
              · rfl
              · rfl
            clear hcv HLT
            refine hK.out _ _ hHeld (fun hHeld => ?_)
            clear hK K
            refine norm_ (a' := ?_) ?_ ?_
            rotate_left
            · show Act.put _ (some 75) _ = _
              simp only [Act.put, List.setIfInBounds_toArray, List.set_cons_zero, List.set_cons_succ, i64_w, i32_w]
              rfl
            refine pure_ (i := 19) (N := some 76) (v := ?_) (a' := ?_) #[true, true, true, true, true, true, true, true, true, true, true, true, true, true, true, true, true, true, true, true, false] rfl rfl (by kernel_rfl) (fun _ _ _ h => h) (Or.inl ⟨by rfl, ?_⟩) ?_ ?_
            rotate_left
            · intro w'
              go_simp
              with_reducible rfl
            rotate_left
            · simp only [Act.put, List.setIfInBounds_toArray, List.set_cons_zero, List.set_cons_succ, i64_w, i32_w]
              rfl
            refine pure_ (i := 20) (N := some 3) (v := ?_) (a' := ?_) #[true, true, true, true, true, true, true, true, true, true, true, true, true, true, true, true, true, true, true, true, true] rfl rfl (by kernel_rfl) (fun _ _ _ h => h) (Or.inl ⟨by rfl, ?_⟩) ?_ ?_
            rotate_left
            · intro w'
              go_simp
              with_reducible rfl
            rotate_left
            · simp only [Act.put, List.setIfInBounds_toArray, List.set_cons_zero, List.set_cons_succ, i64_w, i32_w]
              rfl
            refine done_ (by kernel_rfl) ?_
            go_wp2
            go_roundw
            case measure => simp only [intOf]; omega
            case rel => exact ⟨j + 1, _, by omega, rfl, by go_num, PS, Lib.hid (HI2.out.below hHeld), Lib.hid (below_step HW2.out hHeld)⟩
          · skip
            have c1 : decide (0 < (j : Int)) = false := decide_eq_false (by omega)
            have y2a : decide (pp.size + sb.size ≤ 9223372036854775807) = true := decide_eq_true (by omega)
            have y2b : (9223372036854775807 < pp.size + sb.size) = False := eq_false (by omega)
            clear z1 z2 z4
            go_wp2
            clear c1
            have ep : pt = pp := by rw [PE.out, HPP.out]; unfold preT; rw [if_neg h0]
            rw [ep]
            clear ep
            have HI2 := Lib.hid (show IsS30 w0 wr.drew g l0 l1 from HI.out.drew)
            have HW2 := Lib.hid (below_drew1 HW.out)
            have hd2 : wr.drew.cell? ⟨g, 1, none⟩ = some (.slice (some ad4) l1.length c1) := hd1
            have hx2 : wr.drew.cell? _ = _ := hx
            have hy2 : wr.drew.cell? _ = _ := hy
            clear HI HW hd0 hd1 hx hy
            refine start_ (n := 21) (S := fun w' => Below (wr).drew.heap.size (wr).drew w') (ds := []) #[false, false, false, false, false, false, false, false, false, false, false, false, false, false, false, false, false, false, false, false, false] (by kernel_rfl) rfl rfl (Below.refl _ _) (fun hHeld => ?_)
            generalize wr.drew = wq at HI2 HW2 hd2 hx2 hy2 hHeld ⊢
            refine pure_ (i := 0) (N := some 57) (v := ?_) (a' := ?_) #[true, false, false, false, false, false, false, false, false, false, false, false, false, false, false, false, false, false, false, false, false] rfl rfl (by kernel_rfl) (fun _ _ _ h => h) (Or.inl ⟨by rfl, ?_⟩) ?_ ?_
            rotate_left
            · intro w'
              go_simp
              with_reducible rfl
            rotate_left
            · simp only [Act.put, List.setIfInBounds_toArray, List.set_cons_zero, List.set_cons_succ, i64_w, i32_w]
              rfl
            refine pure_ (i := 1) (N := some 58) (v := ?_) (a' := ?_) #[true, true, false, false, false, false, false, false, false, false, false, false, false, false, false, false, false, false, false, false, false] rfl rfl (by kernel_rfl) (fun _ _ _ h => h) (Or.inl ⟨by rfl, ?_⟩) ?_ ?_
            rotate_left
            · intro w'
              go_simp
              with_reducible rfl
            rotate_left
            · simp only [Act.put, List.setIfInBounds_toArray, List.set_cons_zero, List.set_cons_succ, i64_w, i32_w]
              rfl
            refine pure_ (i := 2) (N := some 59) (v := ?_) (a' := ?_) #[true, true, true, false, false, false, false, false, false, false, false, false, false, false, false, false, false, false, false, false, false] rfl rfl (by kernel_rfl) (fun _ _ _ h => h) (Or.inl ⟨by rfl, ?_⟩) ?_ ?_
            rotate_left
            · intro w'
              go_simp
              with_reducible rfl
            rotate_left
            · simp only [Act.put, List.setIfInBounds_toArray, List.set_cons_zero, List.set_cons_succ, i64_w, i32_w]
              rfl
            refine pure_ (i := 3) (N := some 60) (v := ?_) (a' := ?_) #[true, true, true, true, false, false, false, false, false, false, false, false, false, false, false, false, false, false, false, false, false] rfl rfl (by kernel_rfl) (fun _ _ _ h => h) (Or.inl ⟨by rfl, ?_⟩) ?_ ?_
            rotate_left
            · intro w'
              go_simp
              with_reducible rfl
            rotate_left
            · simp only [Act.put, List.setIfInBounds_toArray, List.set_cons_zero, List.set_cons_succ, i64_w, i32_w]
              rfl
            refine take_ (i := 4) (N := some 61) (v := ?_) (a' := ?_) #[true, true, true, true, true, false, false, false, false, false, false, false, false, false, false, false, false, false, false, false, false] rfl rfl (by kernel_rfl) (fun _ _ _ h => h) (Or.inl ⟨by rfl, ?_⟩) hHeld ?_ ?_
            rotate_left
            · rintro w' hS
              have q_hd2 := bcell hS hd2
              have q_hx2 := bcell hS hx2
              have q_hy2 := bcell hS hy2
              go_simp
              with_reducible rfl
            rotate_left
            · simp only [Act.put, List.setIfInBounds_toArray, List.set_cons_zero, List.set_cons_succ, i64_w, i32_w]
              rfl
            refine pure_ (i := 5) (N := some 62) (v := ?_) (a' := ?_) #[true, true, true, true, true, true, false, false, false, false, false, false, false, false, false, false, false, false, false, false, false] rfl rfl (by kernel_rfl) (fun _ _ _ h => h) (Or.inl ⟨by rfl, ?_⟩) ?_ ?_
            rotate_left
            · intro w'
              go_simp
              with_reducible rfl
            rotate_left
            · simp only [Act.put, List.setIfInBounds_toArray, List.set_cons_zero, List.set_cons_succ, i64_w, i32_w]
              rfl
            refine pure_ (i := 6) (N := some 63) (v := ?_) (a' := ?_) #[true, true, true, true, true, true, true, false, false, false, false, false, false, false, false, false, false, false, false, false, false] rfl rfl (by kernel_rfl) (fun _ _ _ h => h) (Or.inl ⟨by rfl, ?_⟩) ?_ ?_
            rotate_left
            · intro w'
              go_simp
              with_reducible rfl
            rotate_left
            · simp only [Act.put, List.setIfInBounds_toArray, List.set_cons_zero, List.set_cons_succ, i64_w, i32_w]
              rfl
            refine pure_ (i := 7) (N := some 64) (v := ?_) (a' := ?_) #[true, true, true, true, true, true, true, true, false, false, false, false, false, false, false, false, false, false, false, false, false] rfl rfl (by kernel_rfl) (fun _ _ _ h => h) (Or.inl ⟨by rfl, ?_⟩) ?_ ?_
            rotate_left
            · intro w'
              go_simp
              with_reducible rfl
            rotate_left
            · simp only [Act.put, List.setIfInBounds_toArray, List.set_cons_zero, List.set_cons_succ, i64_w, i32_w]
              rfl
            refine take_ (i := 8) (N := some 65) (v := ?_) (a' := ?_) #[true, true, true, true, true, true, true, true, true, false, false, false, false, false, false, false, false, false, false, false, false] rfl rfl (by kernel_rfl) (fun _ _ _ h => h) (Or.inl ⟨by rfl, ?_⟩) hHeld ?_ ?_
            rotate_left
            · rintro w' hS
              have q_hd2 := bcell hS hd2
              have q_hx2 := bcell hS hx2
              have q_hy2 := bcell hS hy2
              go_simp
              with_reducible rfl
            rotate_left
            · simp only [Act.put, List.setIfInBounds_toArray, List.set_cons_zero, List.set_cons_succ, i64_w, i32_w]
              rfl
            refine pure_ (i := 9) (N := some 66) (v := ?_) (a' := ?_) #[true, true, true, true, true, true, true, true, true, true, false, false, false, false, false, false, false, false, false, false, false] rfl rfl (by kernel_rfl) (fun _ _ _ h => h) (Or.inl ⟨by rfl, ?_⟩) ?_ ?_
            rotate_left
            · intro w'
              go_simp
              with_reducible rfl
            rotate_left
            · simp only [Act.put, List.setIfInBounds_toArray, List.set_cons_zero, List.set_cons_succ, i64_w, i32_w]
              rfl
            refine pure_ (i := 10) (N := some 67) (v := ?_) (a' := ?_) #[true, true, true, true, true, true, true, true, true, true, true, false, false, false, false, false, false, false, false, false, false] rfl rfl (by kernel_rfl) (fun _ _ _ h => h) (Or.inl ⟨by rfl, ?_⟩) ?_ ?_
            rotate_left
            · intro w'
              go_simp
              with_reducible rfl
            rotate_left
            · simp only [Act.put, List.setIfInBounds_toArray, List.set_cons_zero, List.set_cons_succ, i64_w, i32_w]
              rfl
            refine pure_ (i := 11) (N := some 68) (v := ?_) (a' := ?_) #[true, true, true, true, true, true, true, true, true, true, true, true, false, false, false, false, false, false, false, false, false] rfl rfl (by kernel_rfl) (fun _ _ _ h => h) (Or.inl ⟨by rfl, ?_⟩) ?_ ?_
            rotate_left
            · intro w'
              go_simp
              with_reducible rfl
            rotate_left
            · simp only [Act.put, List.setIfInBounds_toArray, List.set_cons_zero, List.set_cons_succ, i64_w, i32_w]
              rfl
            refine take_ (i := 12) (N := some 69) (v := ?_) (a' := ?_) #[true, true, true, true, true, true, true, true, true, true, true, true, true, false, false, false, false, false, false, false, false] rfl rfl (by kernel_rfl) (fun _ _ _ h => h) (Or.inl ⟨by rfl, ?_⟩) hHeld ?_ ?_
            rotate_left
            · rintro w' hS
              have q_hd2 := bcell hS hd2
              have q_hx2 := bcell hS hx2
              have q_hy2 := bcell hS hy2
              go_simp
              with_reducible rfl
            rotate_left
            · simp only [Act.put, List.setIfInBounds_toArray, List.set_cons_zero, List.set_cons_succ, i64_w, i32_w]
              rfl
            refine pure_ (i := 13) (N := some 70) (v := ?_) (a' := ?_) #[true, true, true, true, true, true, true, true, true, true, true, true, true, true, false, false, false, false, false, false, false] rfl rfl (by kernel_rfl) (fun _ _ _ h => h) (Or.inl ⟨by rfl, ?_⟩) ?_ ?_
            rotate_left
            · intro w'
              go_simp
              with_reducible rfl
            rotate_left
            · simp only [Act.put, List.setIfInBounds_toArray, List.set_cons_zero, List.set_cons_succ, i64_w, i32_w]
              rfl
            refine pure_ (i := 14) (N := some 71) (v := ?_) (a' := ?_) #[true, true, true, true, true, true, true, true, true, true, true, true, true, true, true, false, false, false, false, false, false] rfl rfl (by kernel_rfl) (fun _ _ _ h => h) (Or.inl ⟨by rfl, ?_⟩) ?_ ?_
            rotate_left
            · intro w'
              go_simp
              with_reducible rfl
            rotate_left
            · simp only [Act.put, List.setIfInBounds_toArray, List.set_cons_zero, List.set_cons_succ, i64_w, i32_w]
              rfl
            refine pure_ (i := 15) (N := some 72) (v := ?_) (a' := ?_) #[true, true, true, true, true, true, true, true, true, true, true, true, true, true, true, true, false, false, false, false, false] rfl rfl (by kernel_rfl) (fun _ _ _ h => h) (Or.inl ⟨by rfl, ?_⟩) ?_ ?_
            rotate_left
            · intro w'
              go_simp
              with_reducible rfl
            rotate_left
            · simp only [Act.put, List.setIfInBounds_toArray, List.set_cons_zero, List.set_cons_succ, i64_w, i32_w]
              rfl
            refine take_ (i := 16) (N := some 73) (v := ?_) (a' := ?_) #[true, true, true, true, true, true, true, true, true, true, true, true, true, true, true, true, true, false, false, false, false] rfl rfl (by kernel_rfl) (fun _ _ _ h => h) (Or.inl ⟨by rfl, ?_⟩) hHeld ?_ ?_
            rotate_left
            · rintro w' hS
              have q_hd2 := bcell hS hd2
              have q_hx2 := bcell hS hx2
              have q_hy2 := bcell hS hy2
              go_simp
              with_reducible rfl
            rotate_left
            · simp only [Act.put, List.setIfInBounds_toArray, List.set_cons_zero, List.set_cons_succ, i64_w, i32_w]
              rfl
            refine one_ (i := 17) (N := some 74) #[true, true, true, true, true, true, true, true, true, true, true, true, true, true, true, true, true, true, false, false, false] rfl rfl (by kernel_rfl) (by decide) (fun K hK => ?_)
            refine Kd.R_lit_step (Kd.int .u8) _ 5 ?hgu1 (N := 74) ?hdu1 (xs := ([(rd_T59 l1 (j : Int)).f0, (rd_T59 l1 (j : Int)).f1] : List Int)) (inner := [.int .u8 (rd_T59 l1 (j : Int)).f0, .int .u8 (rd_T59 l1 (j : Int)).f1]) (ok := fun _ => True) (okp := fun _ => True) ?hru1 ?hpu1 (fun _ hk => hk) trivial (Below.refl _ _) (Nat.le_refl _) (by simp) ?_
            (case hdu1 => rfl)
            (case hgu1 => rfl)
            (case hru1 => first | (go_simp; done) | (go_simp; rfl))
            (case hpu1 => exact (Reps.one (show Kd.M (Kd.int .u8) _ _ _ (rd_T59 l1 (j : Int)).f0 [.int .u8 (rd_T59 l1 (j : Int)).f0] from rfl) (Reps.one (show Kd.M (Kd.int .u8) _ _ _ (rd_T59 l1 (j : Int)).f1 [.int .u8 (rd_T59 l1 (j : Int)).f1] from rfl) (Reps.none _ _))))
            intro vl wz ho hb hg_ hnew_
            clear hg_ hnew_
            have HLT := Lib.hid ho
            clear ho
            have hS_ := below_step hHeld hb
            clear hb hHeld
            refine hK.out _ _ hS_ (fun hHeld => ?_)
            clear hK K hS_
            refine norm_ (a' := ?_) ?_ ?_
            rotate_left
            · show Act.put _ (some 74) _ = _
              simp only [Act.put, List.setIfInBounds_toArray, List.set_cons_zero, List.set_cons_succ, i64_w, i32_w]
              rfl
            refine one_ (i := 18) (N := some 75) #[true, true, true, true, true, true, true, true, true, true, true, true, true, true, true, true, true, true, true, false, false] rfl rfl (by kernel_rfl) (by decide) (fun K hK => ?_)
            have hcv := own_string (P := Tryd.prog) Tryd.underlying57 Tryd.underlying5 Tryd.underlying9 (Kd.own_of_R HLT.out)
            rw [← HSB.out] at hcv
            refine value_ (w1 := ?_) (v := ?_) (by rfl) rfl ?_ ?_
            rotate_left 2
            · go_simp
              constructor
              · rfl
              · rfl
            clear hcv HLT
            refine hK.out _ _ hHeld (fun hHeld => ?_)
            clear hK K
            refine norm_ (a' := ?_) ?_ ?_
            rotate_left
            · show Act.put _ (some 75) _ = _
              simp only [Act.put, List.setIfInBounds_toArray, List.set_cons_zero, List.set_cons_succ, i64_w, i32_w]
              rfl
            refine pure_ (i := 19) (N := some 76) (v := ?_) (a' := ?_) #[true, true, true, true, true, true, true, true, true, true, true, true, true, true, true, true, true, true, true, true, false] rfl rfl (by kernel_rfl) (fun _ _ _ h => h) (Or.inl ⟨by rfl, ?_⟩) ?_ ?_
            rotate_left
            · intro w'
              go_simp
              with_reducible rfl
            rotate_left
            · simp only [Act.put, List.setIfInBounds_toArray, List.set_cons_zero, List.set_cons_succ, i64_w, i32_w]
              rfl
            refine pure_ (i := 20) (N := some 3) (v := ?_) (a' := ?_) #[true, true, true, true, true, true, true, true, true, true, true, true, true, true, true, true, true, true, true, true, true] rfl rfl (by kernel_rfl) (fun _ _ _ h => h) (Or.inl ⟨by rfl, ?_⟩) ?_ ?_
            rotate_left
            · intro w'
              go_simp
              with_reducible rfl
            rotate_left
            · simp only [Act.put, List.setIfInBounds_toArray, List.set_cons_zero, List.set_cons_succ, i64_w, i32_w]
              rfl
            refine done_ (by kernel_rfl) ?_
            go_wp2
            go_roundw
            case measure => simp only [intOf]; omega
            case rel => exact ⟨j + 1, _, by omega, rfl, by go_num, PS, Lib.hid (HI2.out.below hHeld), Lib.hid (below_step HW2.out hHeld)⟩
        · have hlt2 : ¬ (j : Int) < (l1.length : Int) := by omega
          have e2 : pt = toldT l0 l1 := by rw [PE.out, PE2.out, List.take_of_length_le (show l1.length ≤ j by omega)]; rfl
          go_wp2
          go_ret
          exact ⟨by first | rfl | (rw [e2]; rfl), HI.out, HW.out⟩
end Go.Proofs.YtdhhnkhgmoblhaaDoor.Q
