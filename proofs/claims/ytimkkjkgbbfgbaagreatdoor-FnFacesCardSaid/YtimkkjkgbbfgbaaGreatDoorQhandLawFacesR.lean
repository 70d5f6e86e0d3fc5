/- The law FnFaces holds, whatever its two rows of bytes hold. -/
import Derived.Test.YtimkkjkgbbfgbaaGreatDoorQhandLawFaces
namespace Go.Proofs.YtimkkjkgbbfgbaaGreatDoor.Q
open Go.RowKit Go.Proofs.YtimkkjkgbbfgbaaGreatDoorW.PrintWords Go.Proofs.YtimkkjkgbbfgbaaGreatDoorW.PrintLast Go.Proofs.YtimkkjkgbbfgbaaGreatDoorW.PrintMore
open Go.Proofs.YtimkkjkgbbfgbaaGreatDoor.Pure

theorem wf_bytes {l : List Int} (h : ∀ y ∈ l, (Lit.int .u8 y).wf = true) : bytesL l := fun x hx => by
  have h1 := h x hx
  unfold Lit.wf at h1
  rw [Bool.and_eq_true, decide_eq_true_eq, decide_eq_true_eq] at h1
  have h2 : IntKind.min .u8 = 0 := by decide
  have h3 : IntKind.max .u8 = 255 := by decide
  omega
theorem lawFaces (A0 : Option Addr) (c0 : Nat) (gs : List Int) (A1 : Option Addr) (c1 : Nat) (hs : List Int) (w : World) (hG : GlobFP w) (hr0 : Kd.C (Kd.int .u8) w A0 gs.length gs) (hc0 : gs.length ≤ c0) (hr1 : Kd.C (Kd.int .u8) w A1 hs.length hs) (hc1 : hs.length ≤ c1)
    (g0 : ∀ y ∈ gs, (Lit.int .u8 y).wf = true) (g1 : ∀ y ∈ hs, (Lit.int .u8 y).wf = true) :
    Calls Tryz.prog 3 #[.slice A0 gs.length c0, .slice A1 hs.length c1] w fun e w' => e = .returned (.bool true) ∧ Below w.heap.size w w' := by
  cases h : (decide ((gs.length : Int) > 3000) || decide ((hs.length : Int) > 3000)) with
  | true => exact facesA A0 A1 c0 c1 gs hs w hr0 hc0 hr1 hc1 h
  | false => exact facesC A0 A1 c0 c1 gs hs (wf_bytes g0) (wf_bytes g1) w hG hr0 hc0 hr1 hc1 h
end Go.Proofs.YtimkkjkgbbfgbaaGreatDoor.Q
