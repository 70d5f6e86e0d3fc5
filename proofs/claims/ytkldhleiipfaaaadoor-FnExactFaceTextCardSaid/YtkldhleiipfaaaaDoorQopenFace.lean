/- A face that comes in, read as data: 26 widths, two numbers, a row of pairs; no condition. -/
import Derived.Test.YtkldhleiipfaaaaDoorOpen
import Derived.Test.YtkldhleiipfaaaaDoorQhandFace
namespace Go.Proofs.YtkldhleiipfaaaaDoor.Open
open Go.RowKit Go.Proofs.YtkldhleiipfaaaaDoorW.PrintWords Go.Proofs.YtkldhleiipfaaaaDoor.Q
open Go.ChangeShapes Go.WideShapes Go.ChangeAt Go.Deep Go.Joins
set_option linter.unusedVariables false

instance : Inhabited S69 := ⟨z69⟩
theorem opens_pair : Opens Tryd.prog 69 k69 (fun y => (Lit.int .u8 y.f0).wf = true ∧ (Lit.int .u8 y.f1).wf = true ∧ (Lit.int .i8 y.f2).wf = true) :=
  opens_struct3 (P := Tryd.prog) (fun x : S69 => (x.f0, x.f1, x.f2)) (fun a b c => ⟨a, b, c⟩) (fun _ _ _ => rfl) Tryd.underlying69 rfl rfl rfl (by kernel_rfl) (by kernel_rfl) (by kernel_rfl) (by kernel_rfl)
    (opens_int Tryd.underlying5) (opens_int Tryd.underlying5) (opens_int Tryd.underlying22)
theorem take_ints : ∀ (L : List Value), (∀ i, i < L.length → ∃ x, (L.drop i).take 1 = [Value.int .i8 x] ∧ (Lit.int .i8 x).wf = true) → ∃ xs : List Int, L = xs.map (Value.int .i8) ∧ ∀ x ∈ xs, (Lit.int .i8 x).wf = true
  | [], _ => ⟨[], rfl, fun x h => by cases h⟩
  | v :: L, h => by
    obtain ⟨x, h1, h2⟩ := h 0 (by simp)
    obtain ⟨xs, h3, h4⟩ := take_ints L (fun i hi => by
      have := h (i + 1) (by simpa using hi)
      simpa using this)
    simp at h1
    refine ⟨x :: xs, by rw [h1, h3]; rfl, fun y hy => ?_⟩
    rcases List.mem_cons.1 hy with rfl | hy
    · exact h2
    · exact h4 y hy
set_option maxRecDepth 100000 in
theorem open_face {H : Type} {enc : TypeId × Value → H} {r : Reach} {b0 : Nat} {W : World} {base : Nat} {spare : Nat → Bool} {held : Bool} {v : Value} {y : DataW H} {p : List MemPlace}
    (hv : Value.okWide Tryd.prog W r b0 26 v) (h : DataW.Trod enc Tryd.prog W base spare held 26 v y p) :
    ∃ (ws : List Int) (sp gp : Int) (A : Option Addr) (c : Nat) (l : List S69), v = .agg (FV ws sp gp (.slice A l.length c)) ∧ ws.length = 26 ∧ l.length ≤ c ∧ Kd.C k69 W A l.length l ∧
      ((∀ x ∈ ws, (Lit.int .i8 x).wf = true) ∧ (Lit.int .i8 sp).wf = true ∧ (Lit.int .i8 gp).wf = true ∧ ∀ y ∈ l, (Lit.int .u8 y.f0).wf = true ∧ (Lit.int .u8 y.f1).wf = true ∧ (Lit.int .i8 y.f2).wf = true) := by
  obtain ⟨cs0, rfl, _⟩ := okWide_struct Tryd.underlying26 hv
  obtain ⟨fuel, hf⟩ := h
  have hf2 : DataW.trod enc Tryd.prog W base spare held fuel 26 cs0.toList = some (y, p) := by simpa [Value.cells] using hf
  obtain ⟨cs, hcs⟩ : ∃ cs, cs = cs0.toList := ⟨_, rfl⟩
  rw [← hcs] at hf2
  obtain ⟨xs, n, rfl, _, hl, hn, hx⟩ := DataW.trod_struct Tryd.underlying26 hf2
  have hc26 : Tryd.prog.cellsOf 26 = 29 := by kernel_rfl
  have hc23 : Tryd.prog.cellsOf 23 = 26 := by kernel_rfl
  have hc22 : Tryd.prog.cellsOf 22 = 1 := by kernel_rfl
  have hc24 : Tryd.prog.cellsOf 24 = 1 := by kernel_rfl
  have hn4 : xs.length = 4 := hn
  rw [hc26] at hl
  have h0 := hx 0 _ rfl
  have h1 := hx 1 _ rfl
  have h2 := hx 2 _ rfl
  have h3 := hx 3 _ rfl
  rw [List.getElem?_eq_getElem (by omega)] at h0 h1 h2 h3
  have h0' : DataW.trod enc Tryd.prog W base spare held n 23 ((cs.drop 0).take (Tryd.prog.cellsOf 23)) = some xs[0] := h0
  rw [hc23] at h0'
  have h1' : DataW.trod enc Tryd.prog W base spare held n 22 ((cs.drop 26).take (Tryd.prog.cellsOf 22)) = some xs[1] := h1
  rw [hc22] at h1'
  have h2' : DataW.trod enc Tryd.prog W base spare held n 22 ((cs.drop 27).take (Tryd.prog.cellsOf 22)) = some xs[2] := h2
  rw [hc22] at h2'
  have h3' : DataW.trod enc Tryd.prog W base spare held n 24 ((cs.drop 28).take (Tryd.prog.cellsOf 24)) = some xs[3] := h3
  rw [hc24] at h3'
  obtain ⟨sp, k1, g1⟩ := opens_int Tryd.underlying22 enc W base spare held n _ _ h1'
  obtain ⟨gp, k2, g2⟩ := opens_int Tryd.underlying22 enc W base spare held n _ _ h2'
  obtain ⟨l, ⟨A, c, k3, hlc, hC⟩, g3⟩ := opens_slice Tryd.underlying24 (by kernel_rfl) opens_pair enc W base spare held n _ _ h3'
  obtain ⟨ys, m, _, _, hyl, hyn, hy⟩ := DataW.trod_array Tryd.underlying23 h0'
  rw [hc23] at hyl
  obtain ⟨ws, hw, g0⟩ := take_ints ((cs.drop 0).take 26) (fun i hi => by
    rw [hyl] at hi
    have := hy i hi
    rw [hc22, List.getElem?_eq_getElem (by omega), Nat.mul_one] at this
    obtain ⟨x, kx, gx⟩ := opens_int Tryd.underlying22 enc W base spare held m _ _ this
    exact ⟨x, kx, gx⟩)
  have hwl : ws.length = 26 := by
    have := congrArg List.length hw
    rw [hyl, List.length_map] at this
    exact this.symm
  have hcut := cut4 cs 26 1 1 1 (by omega)
  have k1' : (cs.drop 26).take 1 = [Value.int .i8 sp] := k1
  have k2' : (cs.drop 27).take 1 = [Value.int .i8 gp] := k2
  refine ⟨ws, sp, gp, A, c, l, ?_, hwl, hlc, hC, g0, g1, g2, g3⟩
  congr 1
  apply Array.toList_inj.1
  rw [← hcs, hcut, hw]
  show _ ++ ((cs.drop 26).take 1 ++ ((cs.drop 27).take 1 ++ (cs.drop 28).take 1)) = _
  rw [k1', k2', k3]
  simp [FV]
end Go.Proofs.YtkldhleiipfaaaaDoor.Open
