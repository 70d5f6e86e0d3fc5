/- Facts on the package's variables with a listed table: the powers of ten of strconv lie as their text lays them. -/
import Derived.Test.YtimkkjkgbbfgbaaGreatDoorGlobT
import Derived.Lib.ItoaNum
namespace Go.Proofs.YtimkkjkgbbfgbaaGreatDoor
open Go.RowKit
structure GlobP (w : World) : Prop where
  glob : Glob w
  pow : Lib.TabIs Tryz.prog w "internal/strconv.uint64pow10" .u64 Lib.pow10Tab
theorem GlobP.step {w w1 : World} (h : GlobP w) (hb : Below w.heap.size w w1) : GlobP w1 := ⟨h.glob.step hb, tabIs_below h.pow hb⟩
end Go.Proofs.YtimkkjkgbbfgbaaGreatDoor
