/- A system that comes in, read as data: two rows; no condition. -/
import Derived.Test.YtdhhnkhgmoblhaaDoorBase
import Derived.Test.YtdhhnkhgmoblhaaDoorQ0
namespace Go.Proofs.YtdhhnkhgmoblhaaDoor.Open
open Go.RowKit Go.Proofs.YtdhhnkhgmoblhaaDoorW.PrintWords Go.Proofs.YtdhhnkhgmoblhaaDoor.Q
open Go.ChangeShapes Go.WideShapes Go.ChangeAt Go.Deep Go.Joins
set_option linter.unusedVariables false

theorem opens_arr2 {P : Program} {t e : TypeId} {γ α : Type} {d : Kd α} {G : α → Prop} (f : γ → α × α) (g : α → α → γ) (hfg : ∀ a b, f (g a b) = (a, b))
    (ht : P.underlying t = some (.array 2 e)) (hc1 : P.cellsOf e = d.sz) (hc : P.cellsOf t = d.sz + d.sz) (he : Opens P e d G) : Opens P t (Kd.iso (Kd.pair d d) f) (fun y => G (f y).1 ∧ G (f y).2) := by
  intro H enc w base spare held fuel cs x h
  obtain ⟨xs, m, _, _, hl, hn, hx⟩ := DataW.trod_array ht h
  have h0 := hx 0 (by omega)
  have h1 := hx 1 (by omega)
  rw [List.getElem?_eq_getElem (by omega)] at h0 h1
  rw [hc1] at h0 h1
  rw [Nat.zero_mul] at h0
  rw [Nat.one_mul] at h1
  obtain ⟨a, ka, ga⟩ := he enc w base spare held m _ _ h0
  obtain ⟨b, kb, gb⟩ := he enc w base spare held m _ _ h1
  refine ⟨g a b, ?_, by simp only [hfg]; exact ⟨ga, gb⟩⟩
  show ∃ c0 c1, _
  rw [hfg]
  exact ⟨_, _, cut2 cs _ _ (hl.trans hc), ka, kb⟩
theorem opens_sign : Opens Tryd.prog 78 k78 (fun y => (Lit.int .u8 y.f0).wf = true ∧ (Lit.int .i16 y.f1).wf = true) :=
  opens_struct2 (P := Tryd.prog) (fun x : S78 => (x.f0, x.f1)) (fun a b => ⟨a, b⟩) (fun _ _ => rfl) Tryd.underlying78 rfl rfl (by kernel_rfl) (by kernel_rfl) (by kernel_rfl)
    (opens_int Tryd.underlying5) (opens_int Tryd.underlying54)
theorem opens_pair : Opens Tryd.prog 59 k59 (fun y => (Lit.int .u8 y.f0).wf = true ∧ (Lit.int .u8 y.f1).wf = true) :=
  opens_arr2 (P := Tryd.prog) (fun x : S59 => (x.f0, x.f1)) (fun a b => ⟨a, b⟩) (fun _ _ => rfl) Tryd.underlying59 (by kernel_rfl) (by kernel_rfl) (opens_int Tryd.underlying5)
def kSys : Kd (List S78 × List S59) := Kd.iso (Kd.pair (Kd.slice 78 k78) (Kd.slice 59 k59)) (fun x => x)
instance : Inhabited S78 := ⟨z78⟩
instance : Inhabited S59 := ⟨z59⟩
theorem opens_system : Opens Tryd.prog 25 kSys (fun y => (∀ z ∈ y.1, (Lit.int .u8 z.f0).wf = true ∧ (Lit.int .i16 z.f1).wf = true) ∧ (∀ z ∈ y.2, (Lit.int .u8 z.f0).wf = true ∧ (Lit.int .u8 z.f1).wf = true)) :=
  opens_struct2 (P := Tryd.prog) (fun x : List S78 × List S59 => x) (fun a b => (a, b)) (fun _ _ => rfl) Tryd.underlying25 rfl rfl (by kernel_rfl) (by kernel_rfl) (by kernel_rfl)
    (opens_slice Tryd.underlying22 (by kernel_rfl) opens_sign) (opens_slice Tryd.underlying23 (by kernel_rfl) opens_pair)
theorem kSys_open {W : World} {a : List S78 × List S59} {cs : List Value} (h : kSys.K W a cs) :
    ∃ A c B d, cs = [.slice A a.1.length c, .slice B a.2.length d] ∧ a.1.length ≤ c ∧ Kd.C k78 W A a.1.length a.1 ∧ a.2.length ≤ d ∧ Kd.C k59 W B a.2.length a.2 := by
  obtain ⟨_, _, rfl, ⟨A, c, rfl, h1, h2⟩, ⟨B, d, rfl, h3, h4⟩⟩ := h
  exact ⟨A, c, B, d, rfl, h1, h2, h3, h4⟩
end Go.Proofs.YtdhhnkhgmoblhaaDoor.Open
