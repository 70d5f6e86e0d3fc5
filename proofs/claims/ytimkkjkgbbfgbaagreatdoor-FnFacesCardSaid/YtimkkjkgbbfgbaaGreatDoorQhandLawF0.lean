/- The law on faces: what its calls answer, in the form in which the law's walk asks. -/
import Derived.Test.YtimkkjkgbbfgbaaGreatDoorQhandDrawn
import Derived.Test.YtimkkjkgbbfgbaaGreatDoorQhandRFImpl2
import Derived.Test.YtimkkjkgbbfgbaaGreatDoorQhandWith
import Derived.Test.YtimkkjkgbbfgbaaGreatDoorQLs
import Derived.Test.YtimkkjkgbbfgbaaGreatDoorQEqS
import Derived.Test.YtimkkjkgbbfgbaaGreatDoorQLw
namespace Go.Proofs.YtimkkjkgbbfgbaaGreatDoor.Q
open Go.RowKit Go.Proofs.YtimkkjkgbbfgbaaGreatDoorW.PrintWords Go.Proofs.YtimkkjkgbbfgbaaGreatDoorW.PrintLast Go.Proofs.YtimkkjkgbbfgbaaGreatDoorW.PrintMore
open Go.Proofs.YtimkkjkgbbfgbaaGreatDoor.Pure
set_option linter.unusedVariables false
set_option linter.unusedSimpArgs false

/-- A face in a box of its own, as the law keeps it. -/
structure BX (U : TypeId) (a : Nat) (ws : List Int) (sp gp : Int) (l : List S33) (B : Option Addr) (d : Nat) (W : World) : Prop where
  k : W.heap[a]? = some (.cells (FV ws sp gp (.slice B l.length d)) U (0, 0))
  c : Kd.C k33 W B l.length l
  d : l.length ≤ d
theorem BX.below {U : TypeId} {a : Nat} {ws : List Int} {sp gp : Int} {l : List S33} {B : Option Addr} {d : Nat} {W W' : World} (h : BX U a ws sp gp l B d W) (hb : Below W.heap.size W W') : BX U a ws sp gp l B d W' :=
  ⟨(hb.block _ (blk_lt h.k)).trans h.k, Kd.C_below h.c hb, h.d⟩
theorem box_below {a : Nat} {o : Obj} {W W' : World} (h : W.heap[a]? = some o) (hb : Below W.heap.size W W') : W'.heap[a]? = some o := (hb.block _ (blk_lt h)).trans h
theorem drawn_below {w w' : World} (h : Drawn0 w w') : Below w.heap.size w w' := by
  obtain ⟨nd, rfl⟩ := h
  exact pw_below_drewN (Below.refl _ _) nd
theorem longD (A0 : Option Addr) (c0 : Nat) (l0 : List Int) (A1 : Option Addr) (c1 : Nat) (l1 : List Int) (b : Bool) (hb : (decide ((l0.length : Int) > 3000) || decide ((l1.length : Int) > 3000)) = b) (w : World) (hr0 : Kd.C (Kd.int .u8) w A0 l0.length l0) (hc0 : l0.length ≤ c0) (hr1 : Kd.C (Kd.int .u8) w A1 l1.length l1) (hc1 : l1.length ≤ c1) :
    Calls Tryz.prog 4 #[.slice A0 l0.length c0, .slice A1 l1.length c1] w fun e w' => e = .returned (.bool b) ∧ Below w.heap.size w w' := by
  refine (laws_a2Long.calls A0 c0 l0 A1 c1 l1 b w hr0 hc0 hr1 hc1 ?_).mono fun e w' h => ⟨h.1, drawn_below h.2⟩
  unfold laws_a2Long.f
  rw [← hb]
  by_cases h : (l0.length : Int) > 3000
  · rw [if_pos h, decide_eq_true h]; rfl
  · rw [if_neg h, decide_eq_false h]; rfl
theorem a2At_ok (l0 : List Int) (hg : bytesL l0) (i n : Int) (hi : 0 ≤ i) (hn : 1 ≤ n) : ∃ r, laws_a2At.f l0 i n = some r ∧ 0 ≤ r ∧ r < n := by
  unfold laws_a2At.f
  by_cases h : i ≥ (l0.length : Int)
  · rw [if_pos h]; exact ⟨0, rfl, by omega, by omega⟩
  · rw [if_neg h, if_neg (by omega), if_pos hi, if_pos (by omega), if_neg (by omega)]
    refine ⟨_, rfl, ?_⟩
    have hi2 : i.toNat < l0.length := by omega
    have e : rd l0 i = l0[i.toNat] := by
      have := rd_get l0 i.toNat hi2
      rwa [Int.toNat_of_nonneg hi] at this
    have hr := hg _ (List.getElem_mem hi2)
    rw [e, wrap_id (by omega) (by omega), Int.tmod_eq_emod_of_nonneg hr.1]
    exact ⟨Int.emod_nonneg _ (by omega), Int.emod_lt_of_pos _ (by omega)⟩
theorem atD (A0 : Option Addr) (c0 : Nat) (l0 : List Int) (hg : bytesL l0) (i n : Int) (hi : 0 ≤ i) (hn : 1 ≤ n) (w : World) (hr0 : Kd.C (Kd.int .u8) w A0 l0.length l0) (hc0 : l0.length ≤ c0) :
    Calls Tryz.prog 7 #[.slice A0 l0.length c0, .int .i64 i, .int .i64 n] w fun e w' => ∃ r, e = .returned (.int .i64 r) ∧ (0 ≤ r ∧ r < n) ∧ Below w.heap.size w w' := by
  obtain ⟨r, h1, h2, h3⟩ := a2At_ok l0 hg i n hi hn
  exact (laws_a2At.calls A0 c0 l0 i n r w hr0 hc0 h1).mono fun e w' h => ⟨r, h.1, ⟨h2, h3⟩, drawn_below h.2⟩
theorem textD (A0 : Option Addr) (c0 : Nat) (l0 : List Int) (hg : bytesL l0) (w : World) (hr0 : Kd.C (Kd.int .u8) w A0 l0.length l0) (hc0 : l0.length ≤ c0) :
    Calls Tryz.prog 6 #[.slice A0 l0.length c0] w fun e w' => ∃ wl, e = .returned (.string (joinB wl blank)) ∧ (wl.length ≤ 6 ∧ ∀ x ∈ wl, saidB x) ∧ Below w.heap.size w w' := by
  obtain ⟨wl, h1, h2, h3⟩ := text_ok l0 hg
  exact (spec_A2Text.calls 60 A0 c0 l0 _ w hr0 hc0 h1).mono fun e w' h => ⟨wl, h.1, ⟨h2, h3⟩, h.2⟩
theorem faceT_size {ws : List Int} (hx : ws.length = 26) {sp gp : Int} {l : List S33} (hv : validB ws sp gp l = true) : (faceT ws sp gp l).size ≤ 1048576 := by
  obtain ⟨h1, h2, h3, h4, h5⟩ := valid_facts hx hv
  unfold faceT
  rw [ByteArray.size_append, ByteArray.size_append]
  have a1 := joinB_le itoaB ws 2 26 (by omega) (fun x hx => itoaB_small (by have := h1 x hx; omega) (by have := h1 x hx; omega))
  have a2 := midT_size (sp := sp) (gp := gp) (by omega) (by omega)
  have a3 := joinB_le prT l 5 12 h4 (fun y hy => by unfold prT; rw [ByteArray.size_append, two_sz]; have := byT_size (h5 y hy).1 (h5 y hy).2.1; omega)
  omega
theorem faceTextD (ws : List Int) (hx : ws.length = 26) (sp gp : Int) (A : Option Addr) (c : Nat) (l : List S33) (hv : validB ws sp gp l = true) (w : World) (hG : GlobFP w) (hr : Kd.C k33 w A l.length l) (hc : l.length ≤ c) :
    Calls Tryz.prog 9 #[.agg (FV ws sp gp (.slice A l.length c))] w fun e w' => e = .returned (.string (faceT ws sp gp l)) ∧ Below w.heap.size w w' := by
  have := implFaceTextC ws hx sp gp A c l w hG.toP hr hc (by have := (valid_facts hx hv).2.2.2.1; omega) (valid_fits hx hv)
  unfold faceTextR at this
  rw [if_pos hv] at this
  exact this
theorem readD (ws : List Int) (hx : ws.length = 26) (sp gp : Int) (l : List S33) (hv : validB ws sp gp l = true) (w : World) (hG : GlobFP w) :
    Calls Tryz.prog 8 #[.string (faceT ws sp gp l)] w fun e w' => ∃ B d, e = .returned (.tuple #[.agg (FV ws sp gp (.slice B l.length d)), .int .i64 0]) ∧ Kd.R k33 33 w' w.heap.size (fun _ => True) (.slice B l.length d) l ∧ Below w.heap.size w w' :=
  implReadC (faceT ws sp gp l) (faceT_size hx hv) w hG (ws, sp, gp, l) 0 (readR_some (by rw [told_list hx hv]; exact specRF_told hx hv))
theorem implWithD (ws : List Int) (hx : ws.length = 26) (sp gp : Int) (A : Option Addr) (c : Nat) (l : List S33) (hv : validB ws sp gp l = true) (pa pb pc : Int) (hp : -4 ≤ pc ∧ pc ≤ 4) (w : World) (hr : Kd.C k33 w A l.length l) (hc : l.length ≤ c) (rv : List Int) (rs rg : Int) (rl : List S33) (code : Int) (h : withR ws sp gp l ⟨pa, pb, pc⟩ = ((rv, rs, rg, rl), code)) :
    Calls Tryz.prog 10 #[.agg (FV ws sp gp (.slice A l.length c)), .agg #[.int .u8 pa, .int .u8 pb, .int .i8 pc]] w fun e w' => ∃ B d, e = .returned (.tuple #[.agg (FV rv rs rg (.slice B rl.length d)), .int .i64 code]) ∧ Kd.R k33 33 w' w.heap.size (fun _ => True) (.slice B rl.length d) rl ∧ Below w.heap.size w w' :=
  implWithC ws hx sp gp A c l ⟨pa, pb, pc⟩ (by show -128 ≤ pc ∧ pc ≤ 127; omega) w hr hc (by have := (valid_facts hx hv).2.2.2.1; omega) (valid_fits hx hv) (rv, rs, rg, rl) code h
theorem specWithE (ws : List Int) (hx : ws.length = 26) (sp gp : Int) (A : Option Addr) (c : Nat) (l : List S33) (hv : validB ws sp gp l = true) (pa pb pc : Int) (hp : -4 ≤ pc ∧ pc ≤ 4) (w : World) (hr : Kd.C k33 w A l.length l) (hc : l.length ≤ c) (rv : List Int) (rs rg : Int) (rl : List S33) (code : Int) (h : withR ws sp gp l ⟨pa, pb, pc⟩ = ((rv, rs, rg, rl), code)) :
    Calls Tryz.prog 11 #[.agg (FV ws sp gp (.slice A l.length c)), .agg #[.int .u8 pa, .int .u8 pb, .int .i8 pc]] w fun e w' => ∃ B d, e = .returned (.tuple #[.agg (FV rv rs rg (.slice B rl.length d)), .int .i64 code]) ∧ Kd.R k33 33 w' w.heap.size (fun _ => True) (.slice B rl.length d) rl ∧ Below w.heap.size w w' :=
  specWithC ws hx sp gp A c l ⟨pa, pb, pc⟩ (by show -128 ≤ pc ∧ pc ≤ 127; omega) w hr hc (by have := (valid_facts hx hv).2.2.2.1; omega) (valid_fits hx hv) (rv, rs, rg, rl) code h
theorem implLoosenD (ws : List Int) (hx : ws.length = 26) (sp gp : Int) (A : Option Addr) (c : Nat) (l : List S33) (hv : validB ws sp gp l = true) (n : Int) (w : World) (hr : Kd.C k33 w A l.length l) (hc : l.length ≤ c) (rv : List Int) (rs rg : Int) (rl : List S33) (code : Int) (h : loosenR ws sp gp l n = ((rv, rs, rg, rl), code)) :
    Calls Tryz.prog 22 #[.agg (FV ws sp gp (.slice A l.length c)), .int .i64 n] w fun e w' => ∃ B d, e = .returned (.tuple #[.agg (FV rv rs rg (.slice B rl.length d)), .int .i64 code]) ∧ Kd.R k33 33 w' w.heap.size (fun _ => True) (.slice B rl.length d) rl ∧ Below w.heap.size w w' :=
  implLoosenC ws hx sp gp A c l n w hr hc (by have := (valid_facts hx hv).2.2.2.1; omega) (valid_fits hx hv) (rv, rs, rg, rl) code h
theorem specLoosenD (ws : List Int) (hx : ws.length = 26) (sp gp : Int) (A : Option Addr) (c : Nat) (l : List S33) (hv : validB ws sp gp l = true) (n : Int) (w : World) (hr : Kd.C k33 w A l.length l) (hc : l.length ≤ c) (rv : List Int) (rs rg : Int) (rl : List S33) (code : Int) (h : loosenR ws sp gp l n = ((rv, rs, rg, rl), code)) :
    Calls Tryz.prog 23 #[.agg (FV ws sp gp (.slice A l.length c)), .int .i64 n] w fun e w' => ∃ B d, e = .returned (.tuple #[.agg (FV rv rs rg (.slice B rl.length d)), .int .i64 code]) ∧ Kd.R k33 33 w' w.heap.size (fun _ => True) (.slice B rl.length d) rl ∧ Below w.heap.size w w' :=
  specLoosenC ws hx sp gp A c l n w hr hc (by have := (valid_facts hx hv).2.2.2.1; omega) (valid_fits hx hv) (rv, rs, rg, rl) code h
theorem sameB_self (ws : List Int) (sp gp : Int) (l : List S33) : sameB ws sp gp l ws sp gp l = true := by unfold sameB; simp
theorem specSameD (ws : List Int) (hx : ws.length = 26) (sp gp : Int) (A B : Option Addr) (c d : Nat) (l : List S33) (hl : l.length ≤ 12) (w : World) (hr : Kd.C k33 w A l.length l) (hc : l.length ≤ c) (hr' : Kd.C k33 w B l.length l) (hd : l.length ≤ d) :
    Calls Tryz.prog 15 #[.agg (FV ws sp gp (.slice A l.length c)), .agg (FV ws sp gp (.slice B l.length d))] w fun e w' => e = .returned (.bool true) ∧ Below w.heap.size w w' := by
  have := specSameC ws ws hx hx sp gp sp gp A B c d l l w hr hc hr' hd (by omega)
  rwa [sameB_self] at this
theorem implSameD (ws : List Int) (hx : ws.length = 26) (sp gp : Int) (A B : Option Addr) (c d : Nat) (l : List S33) (hl : l.length ≤ 12) (w : World) (hr : Kd.C k33 w A l.length l) (hc : l.length ≤ c) (hr' : Kd.C k33 w B l.length l) (hd : l.length ≤ d) :
    Calls Tryz.prog 16 #[.agg (FV ws sp gp (.slice A l.length c)), .agg (FV ws sp gp (.slice B l.length d))] w fun e w' => e = .returned (.bool true) ∧ Below w.heap.size w w' := by
  have := implSameC ws ws hx hx sp gp sp gp A B c d l l w hr hc hr' hd (by omega)
  rwa [sameB_self] at this
theorem validD (ws : List Int) (hx : ws.length = 26) (sp gp : Int) (A : Option Addr) (c : Nat) (l : List S33) (hv : validB ws sp gp l = true) (w : World) (hr : Kd.C k33 w A l.length l) (hc : l.length ≤ c) :
    Calls Tryz.prog 17 #[.agg (FV ws sp gp (.slice A l.length c))] w fun e w' => e = .returned (.bool true) ∧ Below w.heap.size w w' :=
  implValidC ws hx sp gp A c l w hr hc (by have := (valid_facts hx hv).2.2.2.1; omega) (valid_fits hx hv) true hv
theorem pairByR_ok {ws : List Int} {sp gp : Int} {l : List S33} (hv : validB ws sp gp l = true) {a b : Int} (ha : 65 ≤ a ∧ a ≤ 90) (hb : 65 ≤ b ∧ b ≤ 90) : pairByR ws sp gp l a b = (byL a b l, 0) := by
  unfold pairByR letB
  rw [if_pos hv, decide_eq_true ha.1, decide_eq_true ha.2, decide_eq_true hb.1, decide_eq_true hb.2]
  rfl
theorem implPairD (ws : List Int) (hx : ws.length = 26) (sp gp : Int) (A : Option Addr) (c : Nat) (l : List S33) (hv : validB ws sp gp l = true) (a b : Int) (ha : 65 ≤ a ∧ a ≤ 90) (hb : 65 ≤ b ∧ b ≤ 90) (x : Int) (hxx : byL a b l = x) (w : World) (hr : Kd.C k33 w A l.length l) (hc : l.length ≤ c) :
    Calls Tryz.prog 20 #[.agg (FV ws sp gp (.slice A l.length c)), .int .u8 a, .int .u8 b] w fun e w' => e = .returned (.tuple #[.int .i64 x, .int .i64 0]) ∧ Below w.heap.size w w' := by
  subst hxx
  exact implPairByC ws hx sp gp A c l a b w hr hc (by have := (valid_facts hx hv).2.2.2.1; omega) (valid_fits hx hv) _ _ (pairByR_ok hv ha hb)
theorem specPairD (ws : List Int) (hx : ws.length = 26) (sp gp : Int) (A : Option Addr) (c : Nat) (l : List S33) (hv : validB ws sp gp l = true) (a b : Int) (ha : 65 ≤ a ∧ a ≤ 90) (hb : 65 ≤ b ∧ b ≤ 90) (x : Int) (hxx : byL a b l = x) (w : World) (hr : Kd.C k33 w A l.length l) (hc : l.length ≤ c) :
    Calls Tryz.prog 21 #[.agg (FV ws sp gp (.slice A l.length c)), .int .u8 a, .int .u8 b] w fun e w' => e = .returned (.tuple #[.int .i64 x, .int .i64 0]) ∧ Below w.heap.size w w' := by
  subst hxx
  exact specPairByC ws hx sp gp A c l a b w hr hc (by have := (valid_facts hx hv).2.2.2.1; omega) (valid_fits hx hv) _ _ (pairByR_ok hv ha hb)
theorem implWordsD (wl : List ByteArray) (hl : wl.length ≤ 6) (hs : ∀ x ∈ wl, saidB x) (T : ByteArray) (hT : T = joinB wl blank) (w : World) (hG : GlobFP w) :
    Calls Tryz.prog 12 #[.string T] w fun e w' => ∃ A c, e = .returned (.tuple #[.slice A wl.length c, .int .i64 0]) ∧ (Kd.C Kd.string w' A wl.length wl ∧ wl.length ≤ c) ∧ Below w.heap.size w w' := by
  subst hT
  refine (impl_WordsOf.calls 61 _ wl 0 w hG.toF (by rw [impl_WordsOf.val _ 61 (by omega), said_wordsM hs hl])).mono ?_
  rintro e w' ⟨v, rfl, hR, hb⟩
  obtain ⟨A, c, rfl⟩ := Kd.R_slice hR
  exact ⟨A, c, rfl, ⟨(Kd.R_reads' hR).2.2, (Kd.R_reads' hR).2.1⟩, hb⟩
theorem specWordsD (wl : List ByteArray) (hl : wl.length ≤ 6) (hs : ∀ x ∈ wl, saidB x) (T : ByteArray) (hT : T = joinB wl blank) (w : World) :
    Calls Tryz.prog 13 #[.string T] w fun e w' => ∃ A c, e = .returned (.tuple #[.slice A wl.length c, .int .i64 0]) ∧ (Kd.C Kd.string w' A wl.length wl ∧ wl.length ≤ c) ∧ Below w.heap.size w w' := by
  subst hT
  have hz := said_small hs hl
  refine (spec_WordsOf.calls 200 _ wl 0 w (by rw [spec_WordsOf.val _ (by omega) 200 (by omega), said_wordsM hs hl])).mono ?_
  rintro e w' ⟨v, rfl, hR, hb⟩
  obtain ⟨A, c, rfl⟩ := Kd.R_slice hR
  exact ⟨A, c, rfl, ⟨(Kd.R_reads' hR).2.2, (Kd.R_reads' hR).2.1⟩, hb⟩
theorem joinD (wl : List ByteArray) (hl : wl.length ≤ 6) (hs : ∀ x ∈ wl, saidB x) (T : ByteArray) (hT : T = joinB wl blank) (A : Option Addr) (c : Nat) (w : World) (hG : GlobFP w) (hr : Kd.C Kd.string w A wl.length wl) (hc : wl.length ≤ c) :
    Calls Tryz.prog 14 #[.slice A wl.length c] w fun e w' => e = .returned (.tuple #[.string T, .int .i64 0]) ∧ Below w.heap.size w w' := by
  subst hT
  refine impl_JoinWords.calls A c wl _ 0 w hG.toP.glob hr hc ?_
  unfold impl_JoinWords.f
  rw [if_pos (by omega), if_pos (List.all_eq_true.2 fun x hx => decide_eq_true (by have := (hs x hx).1.2; omega)), said_joinM hs hl]
theorem validTextD (wl : List ByteArray) (hl : wl.length ≤ 6) (hs : ∀ x ∈ wl, saidB x) (T : ByteArray) (hT : T = joinB wl blank) (w : World) (hG : GlobFP w) :
    Calls Tryz.prog 18 #[.string T] w fun e w' => e = .returned (.bool true) ∧ Below w.heap.size w w' := by
  subst hT
  exact impl_ValidText.calls 61 _ true w hG.toP.glob (by rw [impl_ValidText.valM _ 61 (by omega), said_text hs hl])
theorem sameTexts_loop (l : List ByteArray) (hl : l.length ≤ 1000) : ∀ (d k i : Nat), i + d = l.length → d < k → spec_SameTexts.l0 k l l (i : Int) = some true := by
  intro d
  induction d with
  | zero =>
    intro k i hi hk
    obtain ⟨k, rfl⟩ : ∃ m, k = m + 1 := ⟨k - 1, by omega⟩
    rw [spec_SameTexts.l0, if_neg (by omega)]
  | succ d ih =>
    intro k i hi hk
    obtain ⟨k, rfl⟩ : ∃ m, k = m + 1 := ⟨k - 1, by omega⟩
    rw [spec_SameTexts.l0, if_pos (by omega), if_pos (by omega), if_pos (by omega), if_pos rfl, wrap_succ (show i < l.length by omega) (by omega)]
    exact ih k (i + 1) (by omega) (by omega)
theorem sameTextsD (wl : List ByteArray) (hl : wl.length ≤ 6) (A B : Option Addr) (c d : Nat) (w : World) (hr : Kd.C Kd.string w A wl.length wl) (hc : wl.length ≤ c) (hr' : Kd.C Kd.string w B wl.length wl) (hd : wl.length ≤ d) :
    Calls Tryz.prog 19 #[.slice A wl.length c, .slice B wl.length d] w fun e w' => e = .returned (.bool true) ∧ Below w.heap.size w w' := by
  refine (spec_SameTexts.calls 10 A c wl B d wl true w hr hc hr' hd ?_).mono fun e w' h => ⟨h.1, drawn_below h.2⟩
  unfold spec_SameTexts.f
  rw [if_pos rfl]
  exact sameTexts_loop wl (by omega) wl.length 10 0 (by omega) (by omega)
theorem same_loop (l : List Int) (hl : l.length ≤ 1000) : ∀ (d k i : Nat), i + d = l.length → d < k → spec_l00Same.l0 k l l (i : Int) = some true := by
  intro d
  induction d with
  | zero =>
    intro k i hi hk
    obtain ⟨k, rfl⟩ : ∃ m, k = m + 1 := ⟨k - 1, by omega⟩
    rw [spec_l00Same.l0, if_neg (by omega)]
  | succ d ih =>
    intro k i hi hk
    obtain ⟨k, rfl⟩ : ∃ m, k = m + 1 := ⟨k - 1, by omega⟩
    rw [spec_l00Same.l0, if_pos (by omega), if_pos (by omega), if_pos (by omega), if_pos rfl, wrap_succ (show i < l.length by omega) (by omega)]
    exact ih k (i + 1) (by omega) (by omega)
theorem sameD (l : List Int) (hl : l.length = 26) (A B : Option Addr) (c d : Nat) (w : World) (hr : Kd.C (Kd.int .i64) w A l.length l) (hc : l.length ≤ c) (hr' : Kd.C (Kd.int .i64) w B l.length l) (hd : l.length ≤ d) :
    Calls Tryz.prog 26 #[.slice A l.length c, .slice B l.length d] w fun e w' => e = .returned (.bool true) ∧ Below w.heap.size w w' := by
  refine (spec_A2Same.calls 30 A c l B d l true w hr hc hr' hd ?_).mono fun e w' h => ⟨h.1, drawn_below h.2⟩
  unfold spec_A2Same.f spec_l00Same.f
  rw [if_pos rfl, show spec_l00Same.l0 30 l l 0 = some true from same_loop l (by omega) l.length 30 0 (by omega) (by omega)]
  rfl
theorem implCountD (T : ByteArray) (ct : List Int) (h : countM T = (ct, 0)) (w : World) (hG : GlobFP w) :
    Calls Tryz.prog 24 #[.string T] w fun e w' => ∃ A c, e = .returned (.tuple #[.slice A ct.length c, .int .i64 0]) ∧ (Kd.C (Kd.int .i64) w' A ct.length ct ∧ ct.length ≤ c) ∧ Below w.heap.size w w' := by
  refine (impl_CountLetters.calls T ct 0 w hG.toP.glob (by rw [← h]; rfl)).mono ?_
  rintro e w' ⟨v, rfl, hR, hb⟩
  obtain ⟨A, c, rfl⟩ := Kd.R_slice hR
  exact ⟨A, c, rfl, ⟨(Kd.R_reads' hR).2.2, (Kd.R_reads' hR).2.1⟩, hb⟩
theorem specCountD (T : ByteArray) (ct : List Int) (h : countM T = (ct, 0)) (hT : T.size ≤ 100) (w : World) :
    Calls Tryz.prog 25 #[.string T] w fun e w' => ∃ A c, e = .returned (.tuple #[.slice A ct.length c, .int .i64 0]) ∧ (Kd.C (Kd.int .i64) w' A ct.length ct ∧ ct.length ≤ c) ∧ Below w.heap.size w w' := by
  refine (spec_CountLetters.calls 200 T ct 0 w (by rw [at_rounds (spec_CountLetters.mono T) (show T.size + 1 ≤ 200 by omega) (spec_CountLetters.val T (by omega)), h])).mono ?_
  rintro e w' ⟨v, rfl, hR, hb⟩
  obtain ⟨A, c, rfl⟩ := Kd.R_slice hR
  exact ⟨A, c, rfl, ⟨(Kd.R_reads' hR).2.2, (Kd.R_reads' hR).2.1⟩, hb⟩
end Go.Proofs.YtimkkjkgbbfgbaaGreatDoor.Q
