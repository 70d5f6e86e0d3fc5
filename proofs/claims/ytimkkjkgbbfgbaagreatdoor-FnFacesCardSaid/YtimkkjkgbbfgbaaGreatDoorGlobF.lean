/- Facts on the package's variables with listed data: strings.asciiSpace, unicode.White_Space, strconv's two errors. -/
import Derived.Test.YtimkkjkgbbfgbaaGreatDoorGlobT
import Derived.Shelf.Unicode.IsSpaceAny
namespace Go.Proofs.YtimkkjkgbbfgbaaGreatDoor
open Go.RowKit
structure GlobF (w : World) : Prop where
  glob : Glob w
  tab : Lib.TabIs Tryz.prog w "strings.asciiSpace" .u8 Lib.asciiSpaceTab
  white : Lib.WhiteTab 1 w
  esyn : ∃ tp p, w.var? Tryz.prog "strconv.ErrSyntax" = some #[.iface tp p]
  erng : ∃ tp p, w.var? Tryz.prog "strconv.ErrRange" = some #[.iface tp p]
theorem var_below {P : Program} {w w1 : World} {n : String} {cs : Array Value} (h : w.var? P n = some cs) (hb : Below w.heap.size w w1) : w1.var? P n = some cs := by
  unfold World.var? at *
  cases hg : P.globalNamed n with
  | none => rw [hg] at h; cases h
  | some g =>
    rw [hg] at h
    simp only [Option.bind_some] at h ⊢
    have hlt : g < w.heap.size := by
      rcases Nat.lt_or_ge g w.heap.size with h1 | h1
      · exact h1
      · rw [Array.getElem?_eq_none h1] at h; cases h
    rw [hb.block g hlt]
    exact h
theorem GlobF.step {w w1 : World} (h : GlobF w) (hb : Below w.heap.size w w1) : GlobF w1 :=
  ⟨h.glob.step hb, tabIs_below h.tab hb, Go.Proofs.WhiteTab_below h.white hb, (by obtain ⟨t, p, e⟩ := h.esyn; exact ⟨t, p, var_below e hb⟩), (by obtain ⟨t, p, e⟩ := h.erng; exact ⟨t, p, var_below e hb⟩)⟩
end Go.Proofs.YtimkkjkgbbfgbaaGreatDoor
