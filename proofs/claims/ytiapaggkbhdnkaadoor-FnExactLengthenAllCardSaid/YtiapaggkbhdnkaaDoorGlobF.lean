/- Facts on the package's variables with a listed table: strings.asciiSpace lies as its text lays it. -/
import Derived.Test.YtiapaggkbhdnkaaDoorGlobT
namespace Go.Proofs.YtiapaggkbhdnkaaDoor
open Go.RowKit
structure GlobF (w : World) : Prop where
  glob : Glob w
  tab : Lib.TabIs Tryd.prog w "strings.asciiSpace" .u8 Lib.asciiSpaceTab
theorem GlobF.step {w w1 : World} (h : GlobF w) (hb : Below w.heap.size w w1) : GlobF w1 := ⟨h.glob.step hb, tabIs_below h.tab hb⟩
end Go.Proofs.YtiapaggkbhdnkaaDoor
