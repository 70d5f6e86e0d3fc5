/- The law JoinsOf is walked, where the reference answers as the program does. -/
import Derived.Test.YteahgkijaehobaaDoorQhandJoinsOf
import Derived.Test.YteahgkijaehobaaDoorQpurePieces
import Derived.Test.YteahgkijaehobaaDoorQhandA2
import Derived.Test.YteahgkijaehobaaDoorQpureLaw
import Derived.Test.YteahgkijaehobaaDoorQpureMark
import Derived.Test.YteahgkijaehobaaDoorQspecJoinsOf
namespace Go.Proofs.YteahgkijaehobaaDoor.Q
open Go.RowKit Go.Proofs.YteahgkijaehobaaDoorW.PrintWords Go.Proofs.YteahgkijaehobaaDoorW.PrintLast Go.Proofs.YteahgkijaehobaaDoorW.PrintMore
open Go.Proofs.YteahgkijaehobaaDoor.Pure Go.Proofs.YteahgkijaehobaaDoor.Bytes
set_option linter.unusedVariables false

/-- A row of pairs, all of its own, out of which its block comes. -/
theorem row_blockJ {w : World} {base : Nat} {A : Option Addr} {c : Nat} {xs : List PR} (h : Kd.R k83 83 w base (fun _ => True) (.slice A xs.length c) xs) :
    ∃ g, base ≤ g ∧ (0 < xs.length → A = some ⟨g, 0, none⟩ ∧ MRow w g xs.length 0) := by
  by_cases h0 : 0 < xs.length
  · obtain ⟨g, cap, e, hb, hl, cells, hc⟩ := Kd.R_form h h0
    have eA : A = some ⟨g, 0, none⟩ := by injection e
    refine ⟨g, hb, fun _ => ⟨eA, cells, hc, ?_, fun j hj => absurd hj (Nat.not_lt_zero _)⟩⟩
    have hC := (Kd.R_reads' h).2.2
    obtain ⟨ad, e2, _, hy⟩ := at_T83 hC ((xs.length - 1 : Nat) : Int) (by omega) (by omega)
    rw [eA] at e2
    cases e2
    rw [Int.toNat_natCast] at hy
    have h1 : (⟨g, 0, none⟩ : Addr).add ((xs.length - 1) * 2) = ⟨g, (xs.length - 1) * 2, none⟩ := add_plain _ _
    rw [h1, cell_of_row w g _ cells _ _ hc] at hy
    have := (Array.getElem?_eq_some_iff.1 hy).1
    show xs.length * 2 ≤ cells.size
    have h2 : (xs.length - 1) * 2 + 1 < cells.size := this
    omega
  · exact ⟨base, Nat.le_refl _, fun h1 => absurd h1 h0⟩

set_option maxHeartbeats 2000000 in
set_option maxRecDepth 100000 in
theorem laws_FnExactJoinsOf.calls (K : Nat) (hK : 100 ≤ K) (A : Option Addr) (c : Nat) (l : List LP) (pl : List GP) (w : World) (hG : Glob w) (hr : Kd.C k68 w A l.length l) (hc : l.length ≤ c) (rz : Int) (hsz : laws_szPieceS.f K l 1048576 = some rz)
    (hto : 0 ≤ rz → laws_toPieceS.f K l = some pl) (heq : laws_eqPieceS.f K pl pl = some true) (ml : List GP) (mr : Int) (hmr : 0 ≤ mr) (hmark : 0 ≤ rz → laws_markPieceS.f K pl 1 = some (mr, ml))
    (xs : List PR) (code : Int) (himpl : impl_JoinsOf.f pl = some (xs, code)) (hspec : spec_JoinsOf.f K pl = some (xs, code)) (hlen : xs.length ≤ 1000000) :
    Calls Tryd.prog 11 #[.slice A l.length c] w fun e w' => e = .returned (.bool true) ∧ Below w.heap.size w w' := by
  have HR := Lib.hid hr
  have HGG := Lib.hid hG
  have HMK := Lib.hid hmark
  have HSP := Lib.hid hspec
  have HIM := Lib.hid himpl
  have HEQ := Lib.hid heq
  have HTF := Lib.hid hto
  have HSZ := Lib.hid (laws_szPieceS.calls K A c l 1048576 rz w hr hc hsz)
  clear hr hG hmark hspec himpl heq hto hsz
  by_cases hneg : rz < 0
  · have hnd : decide (rz < 0) = true := decide_eq_true hneg
    clear hneg
    go_enter Tryd.func11, Tryd.ntmps11
    go_wp2_with (refine HSZ.out.mono ?_; rintro e w1 ⟨rfl, hb1⟩)
    go_ret
    exact ⟨rfl, hb1⟩
  · have hnd : decide (rz < 0) = false := decide_eq_false hneg
    have HN := Lib.hid (show 0 ≤ rz by omega)
    clear hneg
    have HTO := Lib.hid (fun (W : World) (hW : Below w.heap.size w W) => laws_toPieceS.calls K A c l pl W (Kd.C_below HR.out hW) hc (HTF.out HN.out))
    have hcc : (code != code) = false := by simp
    have hn1 : decide (mr < 0) = false := decide_eq_false (by omega)
    have hn2 : decide ((xs.length : Int) * 2 + 1 < 0) = false := decide_eq_false (by omega)
    go_enter Tryd.func11, Tryd.ntmps11
    go_wp2_with (first
      | (go_at_call 27; refine HSZ.out.mono ?_; rintro e w1 ⟨rfl, hb1⟩; have H1 := Lib.hid hb1; clear hb1)
      | (go_at_call 29; with_reducible refine (HTO.out _ H1.out).mono ?_; rintro e w2 ⟨va, rfl, hoa, hb⟩; obtain ⟨Aa, ca, rfl, hla, hCa⟩ := Kd.R_reads hoa; have H2 := Lib.hid (below_step H1.out hb); have HCa := Lib.hid hCa; clear hb hCa hoa)
      | (go_at_call 41; with_reducible refine (spec_JoinsOf.calls K Aa ca pl xs code _ HCa.out hla HSP.out).mono ?_; rintro e w3 ⟨vw, rfl, how, hb⟩; obtain ⟨Aw, cw, rfl, hlw, hCw⟩ := Kd.R_reads how; have H3 := Lib.hid (below_step H2.out hb); have HCw := Lib.hid hCw; clear hb hCw how)
      | (go_at_call 29; with_reducible refine (HTO.out _ H3.out).mono ?_; rintro e w4 ⟨vx, rfl, hox, hb⟩; obtain ⟨Ax, cx, rfl, hlx, hCx⟩ := Kd.R_reads hox; have H34 := Lib.hid hb; have H4 := Lib.hid (below_step H3.out hb); have HCx := Lib.hid hCx; have HOx := Lib.hid hox; clear hb hCx hox)
      | (go_at_call 42; with_reducible refine (impl_JoinsOf.calls Ax cx pl xs code _ (HGG.out.step H4.out) HCx.out hlx HIM.out).mono ?_; rintro e w5 ⟨vg, rfl, hog, hb⟩; obtain ⟨Ag, cg, rfl, hlg, hCg⟩ := Kd.R_reads hog; have H45 := Lib.hid hb; have H35 := Lib.hid (below_step H34.out hb); have H5 := Lib.hid (below_step H4.out hb); have HCg := Lib.hid hCg; have HOg := Lib.hid hog; clear hb hCg hog)
      | (go_at_call 43; with_reducible refine (laws_eqInt64A2S.calls Ag Aw cg cw xs _ HCg.out (Kd.C_below HCw.out H35.out)).mono ?_; rintro e w6 ⟨rfl, hb⟩; have H56 := Lib.hid hb; have H6 := Lib.hid (below_step H5.out hb); clear hb)
      | (go_at_call 29; with_reducible refine (HTO.out _ H6.out).mono ?_; rintro e w7 ⟨vb, rfl, hob, hb⟩; obtain ⟨Ab, cb, rfl, hlb, hCb⟩ := Kd.R_reads hob; have H57 := Lib.hid (below_step H56.out hb); have H7 := Lib.hid (below_step H6.out hb); have HCb := Lib.hid hCb; clear hb hCb hob)
      | (go_at_call 31; with_reducible refine (laws_eqPieceS.calls K Ax cx pl Ab cb pl true _ (Kd.C_below HCx.out (below_step H45.out H57.out)) hlx HCb.out hlb HEQ.out).mono ?_; rintro e w8 ⟨rfl, hb8⟩; have H58 := Lib.hid (below_step H57.out hb8); have H48 := Lib.hid (below_step H45.out H58.out); have H38 := Lib.hid (below_step H34.out H48.out); have H8 := Lib.hid (below_step H7.out hb8); clear hb8)
      | (go_at_call 44; refine (laws_markPieceS.calls K (fun k => w3.heap.size ≤ k ∧ k < w4.heap.size) (.slice Ax pl.length cx) pl 1 mr ml w3 _ H38.out (Kd.R_below (Kd.R_mono (Kd.R_bound HOx.out) (fun k hk => ⟨hk.2.1, hk.2.2.1⟩)) H48.out) (HMK.out HN.out)).mono ?_; rintro e w9 ⟨rfl, _, hb9, hkept⟩; have H39 := Lib.hid hb9; have H9 := Lib.hid (below_step H3.out hb9); have HOg9 := Lib.hid (Kd.R_mono (Kd.R_move (Kd.R_bound (Kd.R_below HOg.out H58.out)) (fun k hk => hkept.2 k hk.2.2.1 (fun hp => absurd hp.2 (by have := hk.2.1; omega)))) (fun k hk => trivial)); clear hb9 hkept)
      | (go_at_call 43; with_reducible refine (laws_eqInt64A2S.calls Ag Aw cg cw xs _ (Kd.R_reads' HOg9.out).2.2 (Kd.C_below HCw.out H39.out)).mono ?_; rintro e w10 ⟨rfl, hb⟩; have HOg10 := Lib.hid (Kd.R_below HOg9.out hb); have H310 := Lib.hid (below_step H39.out hb); have H10 := Lib.hid (below_step H9.out hb); obtain ⟨g, hgb, hgm⟩ := row_blockJ (Kd.R_below HOg9.out hb); have HGB := Lib.hid hgb; have HGM := Lib.hid hgm; clear hb hgb hgm)
      | (go_at_call 45; refine (laws_markInt64A2S.calls Ag xs.length cg g _ hlen HGM.out).mono ?_; rintro e w11 ⟨rfl, hm11, ho11⟩; have HM11 := Lib.hid hm11; have H311 := Lib.hid (ho11.below H310.out (Nat.le_trans H34.out.size HGB.out)); have H11 := Lib.hid (ho11.below H10.out (Nat.le_trans H4.out.size HGB.out)); have HSZ11 := Lib.hid ho11.size; clear hm11 ho11)
      | (go_at_call 46; with_reducible refine (laws_heldInt64A2S.calls Ag xs.length cg g _ hlen (fun h0 => ⟨(HGM.out h0).1, HM11.out h0⟩)).mono ?_; rintro e w12 ⟨rfl, hb⟩; have H1112 := Lib.hid hb; have H312 := Lib.hid (below_step H311.out hb); have H12 := Lib.hid (below_step H11.out hb); clear hb)
      | (go_at_call 29; with_reducible refine (HTO.out _ H12.out).mono ?_; rintro e w13 ⟨vc, rfl, hoc, hb⟩; obtain ⟨Ac, cc, rfl, hlc, hCc⟩ := Kd.R_reads hoc; have H1113 := Lib.hid (below_step H1112.out hb); have H313 := Lib.hid (below_step H312.out hb); have H13 := Lib.hid (below_step H12.out hb); have HCc := Lib.hid hCc; clear hb hCc hoc)
      | (go_at_call 42; with_reducible refine (impl_JoinsOf.calls Ac cc pl xs code _ (HGG.out.step H13.out) HCc.out hlc HIM.out).mono ?_; rintro e w14 ⟨vh, rfl, hoh, hb⟩; obtain ⟨Ah, ch, rfl, hlh, hCh⟩ := Kd.R_reads hoh; have H1114 := Lib.hid (below_step H1113.out hb); have H314 := Lib.hid (below_step H313.out hb); have H14 := Lib.hid (below_step H13.out hb); have HCh := Lib.hid hCh; clear hb hCh hoh)
      | (go_at_call 43; with_reducible refine (laws_eqInt64A2S.calls Ah Aw ch cw xs _ HCh.out (Kd.C_below HCw.out H314.out)).mono ?_; rintro e w15 ⟨rfl, hb⟩; have H1115 := Lib.hid (below_step H1114.out hb); have H15 := Lib.hid (below_step H14.out hb); clear hb)
      | (go_at_call 46; with_reducible refine (laws_heldInt64A2S.calls Ag xs.length cg g _ hlen (fun h0 => ⟨(HGM.out h0).1, (HM11.out h0).same (H1115.out.block g (HM11.out h0).lt)⟩)).mono ?_; rintro e w16 ⟨rfl, hb⟩; have H16 := Lib.hid (below_step H15.out hb); clear hb)
      )
    go_ret
    exact ⟨rfl, H16.out⟩
end Go.Proofs.YteahgkijaehobaaDoor.Q
