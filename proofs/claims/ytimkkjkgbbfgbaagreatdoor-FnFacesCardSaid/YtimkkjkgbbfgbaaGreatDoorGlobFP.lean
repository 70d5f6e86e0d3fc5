/- Facts on the package's variables with two listed tables: strings.asciiSpace, and the powers of ten of strconv. -/
import Derived.Test.YtimkkjkgbbfgbaaGreatDoorGlobF
import Derived.Test.YtimkkjkgbbfgbaaGreatDoorGlobP
namespace Go.Proofs.YtimkkjkgbbfgbaaGreatDoor
open Go.RowKit
structure GlobFP (w : World) : Prop where
  toF : GlobF w
  toP : GlobP w
theorem GlobFP.step {w w1 : World} (h : GlobFP w) (hb : Below w.heap.size w w1) : GlobFP w1 := ⟨h.toF.step hb, h.toP.step hb⟩
end Go.Proofs.YtimkkjkgbbfgbaaGreatDoor
