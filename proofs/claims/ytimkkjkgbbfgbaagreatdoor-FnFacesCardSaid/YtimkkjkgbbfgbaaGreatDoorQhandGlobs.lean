/- What the listed variables of the row FnFaces hold: the table of white space, and strconv's two errors. -/
import Derived.Test.YtimkkjkgbbfgbaaGreatDoorRows
import Derived.Test.YtimkkjkgbbfgbaaGreatDoorShelfL
import Derived.Lib.LaidU8
import Derived.LaidLaws
namespace Go.Proofs.YtimkkjkgbbfgbaaGreatDoor
open Go.RowKit
set_option linter.unusedVariables false
theorem white_of (W : World) (h : laidMet Tryz.prog Rows.fnFacesRow.laid W) : Lib.WhiteTab 1 W := by
  have hm : ("unicode.White_Space", (Rows.laid_unicode_White_Space : DataW Unit)) ∈ Rows.fnFacesRow.laid := List.mem_of_getElem? (i := 6) rfl
  have hr := Lib.laidMet.reads h hm
  have e : (Rows.laid_unicode_White_Space : DataW Unit) = Lib.whiteData := by kernel_rfl
  rw [e] at hr
  exact whiteTab_of_reads (ρ := Tryz.lays199_ren) Tryz.lays199 ⟨by kernel_rfl, by kernel_rfl, by kernel_rfl, by kernel_rfl, by kernel_rfl, by kernel_rfl, by kernel_rfl, by kernel_rfl⟩ hr
theorem iface_var {P : Program} {W : World} {n : String} {nm : String} {d : DataW Unit} {g : Nat} {t : TypeId} {ms : Array (String × TypeId)} (hr : Lib.VarReads P W n (.iface nm d)) (hg : P.globalNamed n = some g) (hty : (P.globals[g]?).map (·.type) = some t) (ht : P.underlying t = some (.interface ms)) : ∃ tp p, W.var? P n = some #[.iface tp p] := by
  obtain ⟨g', t', cs, fuel, p, hg', hty', hvar, hd⟩ := hr
  obtain rfl := Option.some.inj (hg.symm.trans hg')
  obtain rfl := Option.some.inj (hty.symm.trans hty')
  obtain ⟨fuel', u, v, e, _, _⟩ := iface_of_trod ht hd
  refine ⟨u, v, ?_⟩
  rw [hvar]
  congr 1
  exact Array.toList_inj.1 e
theorem esyn_of (W : World) (h : laidMet Tryz.prog Rows.fnFacesRow.laid W) : ∃ tp p, W.var? Tryz.prog "strconv.ErrSyntax" = some #[.iface tp p] := by
  have hm : ("strconv.ErrSyntax", (Rows.laid_strconv_ErrSyntax : DataW Unit)) ∈ Rows.fnFacesRow.laid := List.mem_of_getElem? (i := 5) rfl
  exact iface_var (g := 3) (t := 93) (Lib.laidMet.reads h hm) (by kernel_rfl) (by kernel_rfl) Tryz.underlying93
theorem erng_of (W : World) (h : laidMet Tryz.prog Rows.fnFacesRow.laid W) : ∃ tp p, W.var? Tryz.prog "strconv.ErrRange" = some #[.iface tp p] := by
  have hm : ("strconv.ErrRange", (Rows.laid_strconv_ErrRange : DataW Unit)) ∈ Rows.fnFacesRow.laid := List.mem_of_getElem? (i := 4) rfl
  exact iface_var (g := 4) (t := 93) (Lib.laidMet.reads h hm) (by kernel_rfl) (by kernel_rfl) Tryz.underlying93
end Go.Proofs.YtimkkjkgbbfgbaaGreatDoor
