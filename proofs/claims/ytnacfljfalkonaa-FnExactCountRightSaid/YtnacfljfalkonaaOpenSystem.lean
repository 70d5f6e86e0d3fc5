/- A system that comes in, read as data: two rows; no condition. -/
import Derived.Test.YtnacfljfalkonaaBase
import Derived.Test.YtnacfljfalkonaaQ0
namespace Go.Proofs.Ytnacfljfalkonaa.Open
open Go.RowKit Go.Proofs.YtnacfljfalkonaaW.PrintWords Go.Proofs.Ytnacfljfalkonaa.Q
open Go.ChangeShapes Go.WideShapes Go.ChangeAt Go.Deep Go.Joins
set_option linter.unusedVariables false

theorem opens_arr2 {P : Program} {t e : TypeId} {γ α : Type} {d : Kd α} {G : α → Prop} (f : γ → α × α) (g : α → α → γ) (hfg : ∀ a b, f (g a b) = (a, b))
    (ht : P.underlying t = some (.array 2 e)) (hc1 : P.cellsOf e = d.sz) (hc : P.cellsOf t = d.sz + d.sz) (he : Opens P e d G) : Opens P t (Kd.iso (Kd.pair d d) f) (fun y => G (f y).1 ∧ G (f y).2) := by
  intro H enc w base spare held fuel cs x h
  obtain ⟨xs, m, _, _, hl, hn, hx⟩ := DataW.trod_array ht h
  have h0 := hx 0 (by omega)
  have h1 := hx 1 (by omega)
  rw [List.getElem?_eq_getElem (by omega)] at h0 h1
  rw [hc1] at h0 h1
  rw [Nat.zero_mul] at h0
  rw [Nat.one_mul] at h1
  obtain ⟨a, ka, ga⟩ := he enc w base spare held m _ _ h0
  obtain ⟨b, kb, gb⟩ := he enc w base spare held m _ _ h1
  refine ⟨g a b, ?_, by simp only [hfg]; exact ⟨ga, gb⟩⟩
  show ∃ c0 c1, _
  rw [hfg]
  exact ⟨_, _, cut2 cs _ _ (hl.trans hc), ka, kb⟩
theorem opens_sign : Opens Try.prog 82 k82 (fun y => (Lit.int .u8 y.f0).wf = true ∧ (Lit.int .i16 y.f1).wf = true) :=
  opens_struct2 (P := Try.prog) (fun x : S82 => (x.f0, x.f1)) (fun a b => ⟨a, b⟩) (fun _ _ => rfl) Try.underlying82 rfl rfl (by kernel_rfl) (by kernel_rfl) (by kernel_rfl)
    (opens_int Try.underlying5) (opens_int Try.underlying75)
theorem opens_pair : Opens Try.prog 79 k79 (fun y => (Lit.int .u8 y.f0).wf = true ∧ (Lit.int .u8 y.f1).wf = true) :=
  opens_arr2 (P := Try.prog) (fun x : S79 => (x.f0, x.f1)) (fun a b => ⟨a, b⟩) (fun _ _ => rfl) Try.underlying79 (by kernel_rfl) (by kernel_rfl) (opens_int Try.underlying5)
def kSys : Kd (List S82 × List S79) := Kd.iso (Kd.pair (Kd.slice 82 k82) (Kd.slice 79 k79)) (fun x => x)
instance : Inhabited S82 := ⟨z82⟩
instance : Inhabited S79 := ⟨z79⟩
theorem opens_system : Opens Try.prog 25 kSys (fun y => (∀ z ∈ y.1, (Lit.int .u8 z.f0).wf = true ∧ (Lit.int .i16 z.f1).wf = true) ∧ (∀ z ∈ y.2, (Lit.int .u8 z.f0).wf = true ∧ (Lit.int .u8 z.f1).wf = true)) :=
  opens_struct2 (P := Try.prog) (fun x : List S82 × List S79 => x) (fun a b => (a, b)) (fun _ _ => rfl) Try.underlying25 rfl rfl (by kernel_rfl) (by kernel_rfl) (by kernel_rfl)
    (opens_slice Try.underlying22 (by kernel_rfl) opens_sign) (opens_slice Try.underlying23 (by kernel_rfl) opens_pair)
theorem kSys_open {W : World} {a : List S82 × List S79} {cs : List Value} (h : kSys.K W a cs) :
    ∃ A c B d, cs = [.slice A a.1.length c, .slice B a.2.length d] ∧ a.1.length ≤ c ∧ Kd.C k82 W A a.1.length a.1 ∧ a.2.length ≤ d ∧ Kd.C k79 W B a.2.length a.2 := by
  obtain ⟨_, _, rfl, ⟨A, c, rfl, h1, h2⟩, ⟨B, d, rfl, h3, h4⟩⟩ := h
  exact ⟨A, c, B, d, rfl, h1, h2, h3, h4⟩
end Go.Proofs.Ytnacfljfalkonaa.Open
