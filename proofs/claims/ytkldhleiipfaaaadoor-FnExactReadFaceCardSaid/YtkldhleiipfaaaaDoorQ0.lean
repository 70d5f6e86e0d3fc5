-- WRITTEN BY A PROGRAM OF THIS SESSION (xprint.py, which runs the kit's printer with changes). Lean checks it.
import Derived.Test.YtkldhleiipfaaaaDoorProg
import Derived.Below
import Derived.Deep.Draws
import Derived.Deep.AppendLies
import Derived.Maps.AppendAt
import Derived.OwnWalk
import Derived.Laws.BytesArg
import Derived.Laws.MakeOwn
import Derived.Laws.OwnMore
import Derived.Deep.OwnRows
import Derived.Tactics
import Derived.Lib.ConvBytes
import Derived.Laws.Slices
import Derived.WalkKit
import Derived.KernelRfl
import Derived.RowKit3
import Derived.Deep.LoopGhost
import Derived.Deep.QuietTactic
import Derived.BigQuiet
import Derived.WideLaws
import Derived.Deep.DeepCutAuto
import Derived.Deep.CutBlock
import Derived.Deep.RegionHeld3
import Derived.Laws.Rows
import Derived.Lib.AppendStr
import Derived.ArgAppend
import Derived.Laws.IdiomCopy
import Derived.OrdersHeld
import Derived.Laws.BitsLemmas
import Derived.RowKit
import Derived.Test.YtkldhleiipfaaaaDoorWLess
namespace Go.Proofs.YtkldhleiipfaaaaDoor.Q
open Go.RowKit Go.Proofs.YtkldhleiipfaaaaDoorW.PrintWords Go.Proofs.YtkldhleiipfaaaaDoorW.PrintLast Go.Proofs.YtkldhleiipfaaaaDoorW.PrintMore
set_option linter.unusedVariables false
set_option linter.unusedSimpArgs false
def errW : Option Int → Value
  | none => .nilIface
  | some c => .iface 117 (.int .i64 c)
theorem errW_none : errW none = .nilIface := rfl
theorem errW_some (c : Int) : errW (some c) = .iface 117 (.int .i64 c) := rfl

theorem info2 : (Tryd.prog.info? 2).map (fun i => (i.zero, i.size, i.bytes)) = some (some (.int .i64 0), 1, 8) := by kernel_rfl
theorem info3 : (Tryd.prog.info? 3).map (fun i => (i.zero, i.size, i.bytes)) = some (some (.int .i64 0), 1, 8) := by kernel_rfl
theorem info5 : (Tryd.prog.info? 5).map (fun i => (i.zero, i.size, i.bytes)) = some (some (.int .u8 0), 1, 1) := by kernel_rfl
theorem info9 : (Tryd.prog.info? 9).map (fun i => (i.zero, i.size, i.bytes)) = some (some (.string ⟨#[]⟩), 1, 16) := by kernel_rfl
theorem info48 : (Tryd.prog.info? 48).map (fun i => (i.zero, i.size, i.bytes)) = some (some (.agg #[(.int .u8 0), (.int .u8 0), (.int .i8 0)]), 3, 3) := by kernel_rfl
-- the values' own types
/-! #### struct type 69 -/
structure S69 where
  f0 : Int
  f1 : Int
  f2 : Int
def z69 : S69 := ⟨(0 : Int), (0 : Int), (0 : Int)⟩
def k69 : Kd S69 := Kd.iso (Kd.pair (Kd.int .u8) (Kd.pair (Kd.int .u8) (Kd.int .i8))) (fun x : S69 => (x.f0, x.f1, x.f2))
theorem k69_open {w : World} {x : S69} {cs : List Value} (h : k69.K w x cs) : cs = [.int .u8 x.f0, .int .u8 x.f1, .int .i8 x.f2] := by
  obtain ⟨_, _, rfl, rfl, ⟨_, _, rfl, rfl, rfl⟩⟩ := h
  exact rfl
theorem k69_openM {w : World} {base : Nat} {ok : Nat → Prop} {x : S69} {cs : List Value} (h : k69.M w base ok x cs) : cs = [.int .u8 x.f0, .int .u8 x.f1, .int .i8 x.f2] := by
  obtain ⟨_, _, rfl, rfl, ⟨_, _, rfl, rfl, rfl⟩⟩ := h
  exact rfl
theorem k69_mk (w : World) (x : S69)  : k69.K w x [.int .u8 x.f0, .int .u8 x.f1, .int .i8 x.f2] := ⟨[.int .u8 x.f0], [.int .u8 x.f1, .int .i8 x.f2], rfl, rfl, ⟨[.int .u8 x.f1], [.int .i8 x.f2], rfl, rfl, rfl⟩⟩
theorem k69_mkM (w : World) (base : Nat) (ok : Nat → Prop) (x : S69)  : k69.M w base ok x [.int .u8 x.f0, .int .u8 x.f1, .int .i8 x.f2] := ⟨[.int .u8 x.f0], [.int .u8 x.f1, .int .i8 x.f2], rfl, rfl, ⟨[.int .u8 x.f1], [.int .i8 x.f2], rfl, rfl, rfl⟩⟩
def rd_T69 (xs : List S69) (i : Int) : S69 := xs.getD i.toNat z69
theorem at_T69 {w : World} {A : Option Addr} {n : Nat} {xs : List S69} (h : Kd.C k69 w A n xs) (i : Int) (h0 : 0 ≤ i) (h1 : i < n) : ∃ ad , A = some ad ∧ w.cell? (ad.add (i.toNat * 3)) = some (.int .u8 (rd_T69 xs i).f0) ∧ w.cell? ⟨(ad.add (i.toNat * 3)).block, (ad.add (i.toNat * 3)).off + 1, none⟩ = some (.int .u8 (rd_T69 xs i).f1) ∧ w.cell? ⟨(ad.add (i.toNat * 3)).block, (ad.add (i.toNat * 3)).off + 2, none⟩ = some (.int .i8 (rd_T69 xs i).f2) := by
  obtain ⟨ad, c, e, _, hK, hc0⟩ := Kd.C_get h z69 i h0 h1
  have hc : ∀ j u, c[j]? = some u → w.cell? (ad.add (i.toNat * 3 + j)) = some u := hc0
  obtain rfl := k69_open hK
  exact ⟨ad, e, hc 0 _ rfl, by rw [← add_field _ _ 1 (by omega)]; exact hc 1 _ rfl, by rw [← add_field _ _ 2 (by omega)]; exact hc 2 _ rfl⟩

/-! #### struct type 23 -/
structure S23 where
  f0 : Int
  f1 : Int
  f2 : Int
  f3 : Int
  f4 : Int
  f5 : Int
  f6 : Int
  f7 : Int
  f8 : Int
  f9 : Int
  f10 : Int
  f11 : Int
  f12 : Int
  f13 : Int
  f14 : Int
  f15 : Int
  f16 : Int
  f17 : Int
  f18 : Int
  f19 : Int
  f20 : Int
  f21 : Int
  f22 : Int
  f23 : Int
  f24 : Int
  f25 : Int
def z23 : S23 := ⟨(0 : Int), (0 : Int), (0 : Int), (0 : Int), (0 : Int), (0 : Int), (0 : Int), (0 : Int), (0 : Int), (0 : Int), (0 : Int), (0 : Int), (0 : Int), (0 : Int), (0 : Int), (0 : Int), (0 : Int), (0 : Int), (0 : Int), (0 : Int), (0 : Int), (0 : Int), (0 : Int), (0 : Int), (0 : Int), (0 : Int)⟩
def k23 : Kd S23 := Kd.iso (Kd.pair (Kd.int .i8) (Kd.pair (Kd.int .i8) (Kd.pair (Kd.int .i8) (Kd.pair (Kd.int .i8) (Kd.pair (Kd.int .i8) (Kd.pair (Kd.int .i8) (Kd.pair (Kd.int .i8) (Kd.pair (Kd.int .i8) (Kd.pair (Kd.int .i8) (Kd.pair (Kd.int .i8) (Kd.pair (Kd.int .i8) (Kd.pair (Kd.int .i8) (Kd.pair (Kd.int .i8) (Kd.pair (Kd.int .i8) (Kd.pair (Kd.int .i8) (Kd.pair (Kd.int .i8) (Kd.pair (Kd.int .i8) (Kd.pair (Kd.int .i8) (Kd.pair (Kd.int .i8) (Kd.pair (Kd.int .i8) (Kd.pair (Kd.int .i8) (Kd.pair (Kd.int .i8) (Kd.pair (Kd.int .i8) (Kd.pair (Kd.int .i8) (Kd.pair (Kd.int .i8) (Kd.int .i8)))))))))))))))))))))))))) (fun x : S23 => (x.f0, x.f1, x.f2, x.f3, x.f4, x.f5, x.f6, x.f7, x.f8, x.f9, x.f10, x.f11, x.f12, x.f13, x.f14, x.f15, x.f16, x.f17, x.f18, x.f19, x.f20, x.f21, x.f22, x.f23, x.f24, x.f25))
theorem k23_open {w : World} {x : S23} {cs : List Value} (h : k23.K w x cs) : cs = [.int .i8 x.f0, .int .i8 x.f1, .int .i8 x.f2, .int .i8 x.f3, .int .i8 x.f4, .int .i8 x.f5, .int .i8 x.f6, .int .i8 x.f7, .int .i8 x.f8, .int .i8 x.f9, .int .i8 x.f10, .int .i8 x.f11, .int .i8 x.f12, .int .i8 x.f13, .int .i8 x.f14, .int .i8 x.f15, .int .i8 x.f16, .int .i8 x.f17, .int .i8 x.f18, .int .i8 x.f19, .int .i8 x.f20, .int .i8 x.f21, .int .i8 x.f22, .int .i8 x.f23, .int .i8 x.f24, .int .i8 x.f25] := by
  obtain ⟨_, _, rfl, rfl, ⟨_, _, rfl, rfl, ⟨_, _, rfl, rfl, ⟨_, _, rfl, rfl, ⟨_, _, rfl, rfl, ⟨_, _, rfl, rfl, ⟨_, _, rfl, rfl, ⟨_, _, rfl, rfl, ⟨_, _, rfl, rfl, ⟨_, _, rfl, rfl, ⟨_, _, rfl, rfl, ⟨_, _, rfl, rfl, ⟨_, _, rfl, rfl, ⟨_, _, rfl, rfl, ⟨_, _, rfl, rfl, ⟨_, _, rfl, rfl, ⟨_, _, rfl, rfl, ⟨_, _, rfl, rfl, ⟨_, _, rfl, rfl, ⟨_, _, rfl, rfl, ⟨_, _, rfl, rfl, ⟨_, _, rfl, rfl, ⟨_, _, rfl, rfl, ⟨_, _, rfl, rfl, ⟨_, _, rfl, rfl, rfl⟩⟩⟩⟩⟩⟩⟩⟩⟩⟩⟩⟩⟩⟩⟩⟩⟩⟩⟩⟩⟩⟩⟩⟩⟩ := h
  exact rfl
theorem k23_openM {w : World} {base : Nat} {ok : Nat → Prop} {x : S23} {cs : List Value} (h : k23.M w base ok x cs) : cs = [.int .i8 x.f0, .int .i8 x.f1, .int .i8 x.f2, .int .i8 x.f3, .int .i8 x.f4, .int .i8 x.f5, .int .i8 x.f6, .int .i8 x.f7, .int .i8 x.f8, .int .i8 x.f9, .int .i8 x.f10, .int .i8 x.f11, .int .i8 x.f12, .int .i8 x.f13, .int .i8 x.f14, .int .i8 x.f15, .int .i8 x.f16, .int .i8 x.f17, .int .i8 x.f18, .int .i8 x.f19, .int .i8 x.f20, .int .i8 x.f21, .int .i8 x.f22, .int .i8 x.f23, .int .i8 x.f24, .int .i8 x.f25] := by
  obtain ⟨_, _, rfl, rfl, ⟨_, _, rfl, rfl, ⟨_, _, rfl, rfl, ⟨_, _, rfl, rfl, ⟨_, _, rfl, rfl, ⟨_, _, rfl, rfl, ⟨_, _, rfl, rfl, ⟨_, _, rfl, rfl, ⟨_, _, rfl, rfl, ⟨_, _, rfl, rfl, ⟨_, _, rfl, rfl, ⟨_, _, rfl, rfl, ⟨_, _, rfl, rfl, ⟨_, _, rfl, rfl, ⟨_, _, rfl, rfl, ⟨_, _, rfl, rfl, ⟨_, _, rfl, rfl, ⟨_, _, rfl, rfl, ⟨_, _, rfl, rfl, ⟨_, _, rfl, rfl, ⟨_, _, rfl, rfl, ⟨_, _, rfl, rfl, ⟨_, _, rfl, rfl, ⟨_, _, rfl, rfl, ⟨_, _, rfl, rfl, rfl⟩⟩⟩⟩⟩⟩⟩⟩⟩⟩⟩⟩⟩⟩⟩⟩⟩⟩⟩⟩⟩⟩⟩⟩⟩ := h
  exact rfl
theorem k23_mk (w : World) (x : S23)  : k23.K w x [.int .i8 x.f0, .int .i8 x.f1, .int .i8 x.f2, .int .i8 x.f3, .int .i8 x.f4, .int .i8 x.f5, .int .i8 x.f6, .int .i8 x.f7, .int .i8 x.f8, .int .i8 x.f9, .int .i8 x.f10, .int .i8 x.f11, .int .i8 x.f12, .int .i8 x.f13, .int .i8 x.f14, .int .i8 x.f15, .int .i8 x.f16, .int .i8 x.f17, .int .i8 x.f18, .int .i8 x.f19, .int .i8 x.f20, .int .i8 x.f21, .int .i8 x.f22, .int .i8 x.f23, .int .i8 x.f24, .int .i8 x.f25] := ⟨[.int .i8 x.f0], [.int .i8 x.f1, .int .i8 x.f2, .int .i8 x.f3, .int .i8 x.f4, .int .i8 x.f5, .int .i8 x.f6, .int .i8 x.f7, .int .i8 x.f8, .int .i8 x.f9, .int .i8 x.f10, .int .i8 x.f11, .int .i8 x.f12, .int .i8 x.f13, .int .i8 x.f14, .int .i8 x.f15, .int .i8 x.f16, .int .i8 x.f17, .int .i8 x.f18, .int .i8 x.f19, .int .i8 x.f20, .int .i8 x.f21, .int .i8 x.f22, .int .i8 x.f23, .int .i8 x.f24, .int .i8 x.f25], rfl, rfl, ⟨[.int .i8 x.f1], [.int .i8 x.f2, .int .i8 x.f3, .int .i8 x.f4, .int .i8 x.f5, .int .i8 x.f6, .int .i8 x.f7, .int .i8 x.f8, .int .i8 x.f9, .int .i8 x.f10, .int .i8 x.f11, .int .i8 x.f12, .int .i8 x.f13, .int .i8 x.f14, .int .i8 x.f15, .int .i8 x.f16, .int .i8 x.f17, .int .i8 x.f18, .int .i8 x.f19, .int .i8 x.f20, .int .i8 x.f21, .int .i8 x.f22, .int .i8 x.f23, .int .i8 x.f24, .int .i8 x.f25], rfl, rfl, ⟨[.int .i8 x.f2], [.int .i8 x.f3, .int .i8 x.f4, .int .i8 x.f5, .int .i8 x.f6, .int .i8 x.f7, .int .i8 x.f8, .int .i8 x.f9, .int .i8 x.f10, .int .i8 x.f11, .int .i8 x.f12, .int .i8 x.f13, .int .i8 x.f14, .int .i8 x.f15, .int .i8 x.f16, .int .i8 x.f17, .int .i8 x.f18, .int .i8 x.f19, .int .i8 x.f20, .int .i8 x.f21, .int .i8 x.f22, .int .i8 x.f23, .int .i8 x.f24, .int .i8 x.f25], rfl, rfl, ⟨[.int .i8 x.f3], [.int .i8 x.f4, .int .i8 x.f5, .int .i8 x.f6, .int .i8 x.f7, .int .i8 x.f8, .int .i8 x.f9, .int .i8 x.f10, .int .i8 x.f11, .int .i8 x.f12, .int .i8 x.f13, .int .i8 x.f14, .int .i8 x.f15, .int .i8 x.f16, .int .i8 x.f17, .int .i8 x.f18, .int .i8 x.f19, .int .i8 x.f20, .int .i8 x.f21, .int .i8 x.f22, .int .i8 x.f23, .int .i8 x.f24, .int .i8 x.f25], rfl, rfl, ⟨[.int .i8 x.f4], [.int .i8 x.f5, .int .i8 x.f6, .int .i8 x.f7, .int .i8 x.f8, .int .i8 x.f9, .int .i8 x.f10, .int .i8 x.f11, .int .i8 x.f12, .int .i8 x.f13, .int .i8 x.f14, .int .i8 x.f15, .int .i8 x.f16, .int .i8 x.f17, .int .i8 x.f18, .int .i8 x.f19, .int .i8 x.f20, .int .i8 x.f21, .int .i8 x.f22, .int .i8 x.f23, .int .i8 x.f24, .int .i8 x.f25], rfl, rfl, ⟨[.int .i8 x.f5], [.int .i8 x.f6, .int .i8 x.f7, .int .i8 x.f8, .int .i8 x.f9, .int .i8 x.f10, .int .i8 x.f11, .int .i8 x.f12, .int .i8 x.f13, .int .i8 x.f14, .int .i8 x.f15, .int .i8 x.f16, .int .i8 x.f17, .int .i8 x.f18, .int .i8 x.f19, .int .i8 x.f20, .int .i8 x.f21, .int .i8 x.f22, .int .i8 x.f23, .int .i8 x.f24, .int .i8 x.f25], rfl, rfl, ⟨[.int .i8 x.f6], [.int .i8 x.f7, .int .i8 x.f8, .int .i8 x.f9, .int .i8 x.f10, .int .i8 x.f11, .int .i8 x.f12, .int .i8 x.f13, .int .i8 x.f14, .int .i8 x.f15, .int .i8 x.f16, .int .i8 x.f17, .int .i8 x.f18, .int .i8 x.f19, .int .i8 x.f20, .int .i8 x.f21, .int .i8 x.f22, .int .i8 x.f23, .int .i8 x.f24, .int .i8 x.f25], rfl, rfl, ⟨[.int .i8 x.f7], [.int .i8 x.f8, .int .i8 x.f9, .int .i8 x.f10, .int .i8 x.f11, .int .i8 x.f12, .int .i8 x.f13, .int .i8 x.f14, .int .i8 x.f15, .int .i8 x.f16, .int .i8 x.f17, .int .i8 x.f18, .int .i8 x.f19, .int .i8 x.f20, .int .i8 x.f21, .int .i8 x.f22, .int .i8 x.f23, .int .i8 x.f24, .int .i8 x.f25], rfl, rfl, ⟨[.int .i8 x.f8], [.int .i8 x.f9, .int .i8 x.f10, .int .i8 x.f11, .int .i8 x.f12, .int .i8 x.f13, .int .i8 x.f14, .int .i8 x.f15, .int .i8 x.f16, .int .i8 x.f17, .int .i8 x.f18, .int .i8 x.f19, .int .i8 x.f20, .int .i8 x.f21, .int .i8 x.f22, .int .i8 x.f23, .int .i8 x.f24, .int .i8 x.f25], rfl, rfl, ⟨[.int .i8 x.f9], [.int .i8 x.f10, .int .i8 x.f11, .int .i8 x.f12, .int .i8 x.f13, .int .i8 x.f14, .int .i8 x.f15, .int .i8 x.f16, .int .i8 x.f17, .int .i8 x.f18, .int .i8 x.f19, .int .i8 x.f20, .int .i8 x.f21, .int .i8 x.f22, .int .i8 x.f23, .int .i8 x.f24, .int .i8 x.f25], rfl, rfl, ⟨[.int .i8 x.f10], [.int .i8 x.f11, .int .i8 x.f12, .int .i8 x.f13, .int .i8 x.f14, .int .i8 x.f15, .int .i8 x.f16, .int .i8 x.f17, .int .i8 x.f18, .int .i8 x.f19, .int .i8 x.f20, .int .i8 x.f21, .int .i8 x.f22, .int .i8 x.f23, .int .i8 x.f24, .int .i8 x.f25], rfl, rfl, ⟨[.int .i8 x.f11], [.int .i8 x.f12, .int .i8 x.f13, .int .i8 x.f14, .int .i8 x.f15, .int .i8 x.f16, .int .i8 x.f17, .int .i8 x.f18, .int .i8 x.f19, .int .i8 x.f20, .int .i8 x.f21, .int .i8 x.f22, .int .i8 x.f23, .int .i8 x.f24, .int .i8 x.f25], rfl, rfl, ⟨[.int .i8 x.f12], [.int .i8 x.f13, .int .i8 x.f14, .int .i8 x.f15, .int .i8 x.f16, .int .i8 x.f17, .int .i8 x.f18, .int .i8 x.f19, .int .i8 x.f20, .int .i8 x.f21, .int .i8 x.f22, .int .i8 x.f23, .int .i8 x.f24, .int .i8 x.f25], rfl, rfl, ⟨[.int .i8 x.f13], [.int .i8 x.f14, .int .i8 x.f15, .int .i8 x.f16, .int .i8 x.f17, .int .i8 x.f18, .int .i8 x.f19, .int .i8 x.f20, .int .i8 x.f21, .int .i8 x.f22, .int .i8 x.f23, .int .i8 x.f24, .int .i8 x.f25], rfl, rfl, ⟨[.int .i8 x.f14], [.int .i8 x.f15, .int .i8 x.f16, .int .i8 x.f17, .int .i8 x.f18, .int .i8 x.f19, .int .i8 x.f20, .int .i8 x.f21, .int .i8 x.f22, .int .i8 x.f23, .int .i8 x.f24, .int .i8 x.f25], rfl, rfl, ⟨[.int .i8 x.f15], [.int .i8 x.f16, .int .i8 x.f17, .int .i8 x.f18, .int .i8 x.f19, .int .i8 x.f20, .int .i8 x.f21, .int .i8 x.f22, .int .i8 x.f23, .int .i8 x.f24, .int .i8 x.f25], rfl, rfl, ⟨[.int .i8 x.f16], [.int .i8 x.f17, .int .i8 x.f18, .int .i8 x.f19, .int .i8 x.f20, .int .i8 x.f21, .int .i8 x.f22, .int .i8 x.f23, .int .i8 x.f24, .int .i8 x.f25], rfl, rfl, ⟨[.int .i8 x.f17], [.int .i8 x.f18, .int .i8 x.f19, .int .i8 x.f20, .int .i8 x.f21, .int .i8 x.f22, .int .i8 x.f23, .int .i8 x.f24, .int .i8 x.f25], rfl, rfl, ⟨[.int .i8 x.f18], [.int .i8 x.f19, .int .i8 x.f20, .int .i8 x.f21, .int .i8 x.f22, .int .i8 x.f23, .int .i8 x.f24, .int .i8 x.f25], rfl, rfl, ⟨[.int .i8 x.f19], [.int .i8 x.f20, .int .i8 x.f21, .int .i8 x.f22, .int .i8 x.f23, .int .i8 x.f24, .int .i8 x.f25], rfl, rfl, ⟨[.int .i8 x.f20], [.int .i8 x.f21, .int .i8 x.f22, .int .i8 x.f23, .int .i8 x.f24, .int .i8 x.f25], rfl, rfl, ⟨[.int .i8 x.f21], [.int .i8 x.f22, .int .i8 x.f23, .int .i8 x.f24, .int .i8 x.f25], rfl, rfl, ⟨[.int .i8 x.f22], [.int .i8 x.f23, .int .i8 x.f24, .int .i8 x.f25], rfl, rfl, ⟨[.int .i8 x.f23], [.int .i8 x.f24, .int .i8 x.f25], rfl, rfl, ⟨[.int .i8 x.f24], [.int .i8 x.f25], rfl, rfl, rfl⟩⟩⟩⟩⟩⟩⟩⟩⟩⟩⟩⟩⟩⟩⟩⟩⟩⟩⟩⟩⟩⟩⟩⟩⟩
theorem k23_mkM (w : World) (base : Nat) (ok : Nat → Prop) (x : S23)  : k23.M w base ok x [.int .i8 x.f0, .int .i8 x.f1, .int .i8 x.f2, .int .i8 x.f3, .int .i8 x.f4, .int .i8 x.f5, .int .i8 x.f6, .int .i8 x.f7, .int .i8 x.f8, .int .i8 x.f9, .int .i8 x.f10, .int .i8 x.f11, .int .i8 x.f12, .int .i8 x.f13, .int .i8 x.f14, .int .i8 x.f15, .int .i8 x.f16, .int .i8 x.f17, .int .i8 x.f18, .int .i8 x.f19, .int .i8 x.f20, .int .i8 x.f21, .int .i8 x.f22, .int .i8 x.f23, .int .i8 x.f24, .int .i8 x.f25] := ⟨[.int .i8 x.f0], [.int .i8 x.f1, .int .i8 x.f2, .int .i8 x.f3, .int .i8 x.f4, .int .i8 x.f5, .int .i8 x.f6, .int .i8 x.f7, .int .i8 x.f8, .int .i8 x.f9, .int .i8 x.f10, .int .i8 x.f11, .int .i8 x.f12, .int .i8 x.f13, .int .i8 x.f14, .int .i8 x.f15, .int .i8 x.f16, .int .i8 x.f17, .int .i8 x.f18, .int .i8 x.f19, .int .i8 x.f20, .int .i8 x.f21, .int .i8 x.f22, .int .i8 x.f23, .int .i8 x.f24, .int .i8 x.f25], rfl, rfl, ⟨[.int .i8 x.f1], [.int .i8 x.f2, .int .i8 x.f3, .int .i8 x.f4, .int .i8 x.f5, .int .i8 x.f6, .int .i8 x.f7, .int .i8 x.f8, .int .i8 x.f9, .int .i8 x.f10, .int .i8 x.f11, .int .i8 x.f12, .int .i8 x.f13, .int .i8 x.f14, .int .i8 x.f15, .int .i8 x.f16, .int .i8 x.f17, .int .i8 x.f18, .int .i8 x.f19, .int .i8 x.f20, .int .i8 x.f21, .int .i8 x.f22, .int .i8 x.f23, .int .i8 x.f24, .int .i8 x.f25], rfl, rfl, ⟨[.int .i8 x.f2], [.int .i8 x.f3, .int .i8 x.f4, .int .i8 x.f5, .int .i8 x.f6, .int .i8 x.f7, .int .i8 x.f8, .int .i8 x.f9, .int .i8 x.f10, .int .i8 x.f11, .int .i8 x.f12, .int .i8 x.f13, .int .i8 x.f14, .int .i8 x.f15, .int .i8 x.f16, .int .i8 x.f17, .int .i8 x.f18, .int .i8 x.f19, .int .i8 x.f20, .int .i8 x.f21, .int .i8 x.f22, .int .i8 x.f23, .int .i8 x.f24, .int .i8 x.f25], rfl, rfl, ⟨[.int .i8 x.f3], [.int .i8 x.f4, .int .i8 x.f5, .int .i8 x.f6, .int .i8 x.f7, .int .i8 x.f8, .int .i8 x.f9, .int .i8 x.f10, .int .i8 x.f11, .int .i8 x.f12, .int .i8 x.f13, .int .i8 x.f14, .int .i8 x.f15, .int .i8 x.f16, .int .i8 x.f17, .int .i8 x.f18, .int .i8 x.f19, .int .i8 x.f20, .int .i8 x.f21, .int .i8 x.f22, .int .i8 x.f23, .int .i8 x.f24, .int .i8 x.f25], rfl, rfl, ⟨[.int .i8 x.f4], [.int .i8 x.f5, .int .i8 x.f6, .int .i8 x.f7, .int .i8 x.f8, .int .i8 x.f9, .int .i8 x.f10, .int .i8 x.f11, .int .i8 x.f12, .int .i8 x.f13, .int .i8 x.f14, .int .i8 x.f15, .int .i8 x.f16, .int .i8 x.f17, .int .i8 x.f18, .int .i8 x.f19, .int .i8 x.f20, .int .i8 x.f21, .int .i8 x.f22, .int .i8 x.f23, .int .i8 x.f24, .int .i8 x.f25], rfl, rfl, ⟨[.int .i8 x.f5], [.int .i8 x.f6, .int .i8 x.f7, .int .i8 x.f8, .int .i8 x.f9, .int .i8 x.f10, .int .i8 x.f11, .int .i8 x.f12, .int .i8 x.f13, .int .i8 x.f14, .int .i8 x.f15, .int .i8 x.f16, .int .i8 x.f17, .int .i8 x.f18, .int .i8 x.f19, .int .i8 x.f20, .int .i8 x.f21, .int .i8 x.f22, .int .i8 x.f23, .int .i8 x.f24, .int .i8 x.f25], rfl, rfl, ⟨[.int .i8 x.f6], [.int .i8 x.f7, .int .i8 x.f8, .int .i8 x.f9, .int .i8 x.f10, .int .i8 x.f11, .int .i8 x.f12, .int .i8 x.f13, .int .i8 x.f14, .int .i8 x.f15, .int .i8 x.f16, .int .i8 x.f17, .int .i8 x.f18, .int .i8 x.f19, .int .i8 x.f20, .int .i8 x.f21, .int .i8 x.f22, .int .i8 x.f23, .int .i8 x.f24, .int .i8 x.f25], rfl, rfl, ⟨[.int .i8 x.f7], [.int .i8 x.f8, .int .i8 x.f9, .int .i8 x.f10, .int .i8 x.f11, .int .i8 x.f12, .int .i8 x.f13, .int .i8 x.f14, .int .i8 x.f15, .int .i8 x.f16, .int .i8 x.f17, .int .i8 x.f18, .int .i8 x.f19, .int .i8 x.f20, .int .i8 x.f21, .int .i8 x.f22, .int .i8 x.f23, .int .i8 x.f24, .int .i8 x.f25], rfl, rfl, ⟨[.int .i8 x.f8], [.int .i8 x.f9, .int .i8 x.f10, .int .i8 x.f11, .int .i8 x.f12, .int .i8 x.f13, .int .i8 x.f14, .int .i8 x.f15, .int .i8 x.f16, .int .i8 x.f17, .int .i8 x.f18, .int .i8 x.f19, .int .i8 x.f20, .int .i8 x.f21, .int .i8 x.f22, .int .i8 x.f23, .int .i8 x.f24, .int .i8 x.f25], rfl, rfl, ⟨[.int .i8 x.f9], [.int .i8 x.f10, .int .i8 x.f11, .int .i8 x.f12, .int .i8 x.f13, .int .i8 x.f14, .int .i8 x.f15, .int .i8 x.f16, .int .i8 x.f17, .int .i8 x.f18, .int .i8 x.f19, .int .i8 x.f20, .int .i8 x.f21, .int .i8 x.f22, .int .i8 x.f23, .int .i8 x.f24, .int .i8 x.f25], rfl, rfl, ⟨[.int .i8 x.f10], [.int .i8 x.f11, .int .i8 x.f12, .int .i8 x.f13, .int .i8 x.f14, .int .i8 x.f15, .int .i8 x.f16, .int .i8 x.f17, .int .i8 x.f18, .int .i8 x.f19, .int .i8 x.f20, .int .i8 x.f21, .int .i8 x.f22, .int .i8 x.f23, .int .i8 x.f24, .int .i8 x.f25], rfl, rfl, ⟨[.int .i8 x.f11], [.int .i8 x.f12, .int .i8 x.f13, .int .i8 x.f14, .int .i8 x.f15, .int .i8 x.f16, .int .i8 x.f17, .int .i8 x.f18, .int .i8 x.f19, .int .i8 x.f20, .int .i8 x.f21, .int .i8 x.f22, .int .i8 x.f23, .int .i8 x.f24, .int .i8 x.f25], rfl, rfl, ⟨[.int .i8 x.f12], [.int .i8 x.f13, .int .i8 x.f14, .int .i8 x.f15, .int .i8 x.f16, .int .i8 x.f17, .int .i8 x.f18, .int .i8 x.f19, .int .i8 x.f20, .int .i8 x.f21, .int .i8 x.f22, .int .i8 x.f23, .int .i8 x.f24, .int .i8 x.f25], rfl, rfl, ⟨[.int .i8 x.f13], [.int .i8 x.f14, .int .i8 x.f15, .int .i8 x.f16, .int .i8 x.f17, .int .i8 x.f18, .int .i8 x.f19, .int .i8 x.f20, .int .i8 x.f21, .int .i8 x.f22, .int .i8 x.f23, .int .i8 x.f24, .int .i8 x.f25], rfl, rfl, ⟨[.int .i8 x.f14], [.int .i8 x.f15, .int .i8 x.f16, .int .i8 x.f17, .int .i8 x.f18, .int .i8 x.f19, .int .i8 x.f20, .int .i8 x.f21, .int .i8 x.f22, .int .i8 x.f23, .int .i8 x.f24, .int .i8 x.f25], rfl, rfl, ⟨[.int .i8 x.f15], [.int .i8 x.f16, .int .i8 x.f17, .int .i8 x.f18, .int .i8 x.f19, .int .i8 x.f20, .int .i8 x.f21, .int .i8 x.f22, .int .i8 x.f23, .int .i8 x.f24, .int .i8 x.f25], rfl, rfl, ⟨[.int .i8 x.f16], [.int .i8 x.f17, .int .i8 x.f18, .int .i8 x.f19, .int .i8 x.f20, .int .i8 x.f21, .int .i8 x.f22, .int .i8 x.f23, .int .i8 x.f24, .int .i8 x.f25], rfl, rfl, ⟨[.int .i8 x.f17], [.int .i8 x.f18, .int .i8 x.f19, .int .i8 x.f20, .int .i8 x.f21, .int .i8 x.f22, .int .i8 x.f23, .int .i8 x.f24, .int .i8 x.f25], rfl, rfl, ⟨[.int .i8 x.f18], [.int .i8 x.f19, .int .i8 x.f20, .int .i8 x.f21, .int .i8 x.f22, .int .i8 x.f23, .int .i8 x.f24, .int .i8 x.f25], rfl, rfl, ⟨[.int .i8 x.f19], [.int .i8 x.f20, .int .i8 x.f21, .int .i8 x.f22, .int .i8 x.f23, .int .i8 x.f24, .int .i8 x.f25], rfl, rfl, ⟨[.int .i8 x.f20], [.int .i8 x.f21, .int .i8 x.f22, .int .i8 x.f23, .int .i8 x.f24, .int .i8 x.f25], rfl, rfl, ⟨[.int .i8 x.f21], [.int .i8 x.f22, .int .i8 x.f23, .int .i8 x.f24, .int .i8 x.f25], rfl, rfl, ⟨[.int .i8 x.f22], [.int .i8 x.f23, .int .i8 x.f24, .int .i8 x.f25], rfl, rfl, ⟨[.int .i8 x.f23], [.int .i8 x.f24, .int .i8 x.f25], rfl, rfl, ⟨[.int .i8 x.f24], [.int .i8 x.f25], rfl, rfl, rfl⟩⟩⟩⟩⟩⟩⟩⟩⟩⟩⟩⟩⟩⟩⟩⟩⟩⟩⟩⟩⟩⟩⟩⟩⟩
def rd_T23 (xs : List S23) (i : Int) : S23 := xs.getD i.toNat z23
theorem at_T23 {w : World} {A : Option Addr} {n : Nat} {xs : List S23} (h : Kd.C k23 w A n xs) (i : Int) (h0 : 0 ≤ i) (h1 : i < n) : ∃ ad , A = some ad ∧ w.cell? (ad.add (i.toNat * 26)) = some (.int .i8 (rd_T23 xs i).f0) ∧ w.cell? ⟨(ad.add (i.toNat * 26)).block, (ad.add (i.toNat * 26)).off + 1, none⟩ = some (.int .i8 (rd_T23 xs i).f1) ∧ w.cell? ⟨(ad.add (i.toNat * 26)).block, (ad.add (i.toNat * 26)).off + 2, none⟩ = some (.int .i8 (rd_T23 xs i).f2) ∧ w.cell? ⟨(ad.add (i.toNat * 26)).block, (ad.add (i.toNat * 26)).off + 3, none⟩ = some (.int .i8 (rd_T23 xs i).f3) ∧ w.cell? ⟨(ad.add (i.toNat * 26)).block, (ad.add (i.toNat * 26)).off + 4, none⟩ = some (.int .i8 (rd_T23 xs i).f4) ∧ w.cell? ⟨(ad.add (i.toNat * 26)).block, (ad.add (i.toNat * 26)).off + 5, none⟩ = some (.int .i8 (rd_T23 xs i).f5) ∧ w.cell? ⟨(ad.add (i.toNat * 26)).block, (ad.add (i.toNat * 26)).off + 6, none⟩ = some (.int .i8 (rd_T23 xs i).f6) ∧ w.cell? ⟨(ad.add (i.toNat * 26)).block, (ad.add (i.toNat * 26)).off + 7, none⟩ = some (.int .i8 (rd_T23 xs i).f7) ∧ w.cell? ⟨(ad.add (i.toNat * 26)).block, (ad.add (i.toNat * 26)).off + 8, none⟩ = some (.int .i8 (rd_T23 xs i).f8) ∧ w.cell? ⟨(ad.add (i.toNat * 26)).block, (ad.add (i.toNat * 26)).off + 9, none⟩ = some (.int .i8 (rd_T23 xs i).f9) ∧ w.cell? ⟨(ad.add (i.toNat * 26)).block, (ad.add (i.toNat * 26)).off + 10, none⟩ = some (.int .i8 (rd_T23 xs i).f10) ∧ w.cell? ⟨(ad.add (i.toNat * 26)).block, (ad.add (i.toNat * 26)).off + 11, none⟩ = some (.int .i8 (rd_T23 xs i).f11) ∧ w.cell? ⟨(ad.add (i.toNat * 26)).block, (ad.add (i.toNat * 26)).off + 12, none⟩ = some (.int .i8 (rd_T23 xs i).f12) ∧ w.cell? ⟨(ad.add (i.toNat * 26)).block, (ad.add (i.toNat * 26)).off + 13, none⟩ = some (.int .i8 (rd_T23 xs i).f13) ∧ w.cell? ⟨(ad.add (i.toNat * 26)).block, (ad.add (i.toNat * 26)).off + 14, none⟩ = some (.int .i8 (rd_T23 xs i).f14) ∧ w.cell? ⟨(ad.add (i.toNat * 26)).block, (ad.add (i.toNat * 26)).off + 15, none⟩ = some (.int .i8 (rd_T23 xs i).f15) ∧ w.cell? ⟨(ad.add (i.toNat * 26)).block, (ad.add (i.toNat * 26)).off + 16, none⟩ = some (.int .i8 (rd_T23 xs i).f16) ∧ w.cell? ⟨(ad.add (i.toNat * 26)).block, (ad.add (i.toNat * 26)).off + 17, none⟩ = some (.int .i8 (rd_T23 xs i).f17) ∧ w.cell? ⟨(ad.add (i.toNat * 26)).block, (ad.add (i.toNat * 26)).off + 18, none⟩ = some (.int .i8 (rd_T23 xs i).f18) ∧ w.cell? ⟨(ad.add (i.toNat * 26)).block, (ad.add (i.toNat * 26)).off + 19, none⟩ = some (.int .i8 (rd_T23 xs i).f19) ∧ w.cell? ⟨(ad.add (i.toNat * 26)).block, (ad.add (i.toNat * 26)).off + 20, none⟩ = some (.int .i8 (rd_T23 xs i).f20) ∧ w.cell? ⟨(ad.add (i.toNat * 26)).block, (ad.add (i.toNat * 26)).off + 21, none⟩ = some (.int .i8 (rd_T23 xs i).f21) ∧ w.cell? ⟨(ad.add (i.toNat * 26)).block, (ad.add (i.toNat * 26)).off + 22, none⟩ = some (.int .i8 (rd_T23 xs i).f22) ∧ w.cell? ⟨(ad.add (i.toNat * 26)).block, (ad.add (i.toNat * 26)).off + 23, none⟩ = some (.int .i8 (rd_T23 xs i).f23) ∧ w.cell? ⟨(ad.add (i.toNat * 26)).block, (ad.add (i.toNat * 26)).off + 24, none⟩ = some (.int .i8 (rd_T23 xs i).f24) ∧ w.cell? ⟨(ad.add (i.toNat * 26)).block, (ad.add (i.toNat * 26)).off + 25, none⟩ = some (.int .i8 (rd_T23 xs i).f25) := by
  obtain ⟨ad, c, e, _, hK, hc0⟩ := Kd.C_get h z23 i h0 h1
  have hc : ∀ j u, c[j]? = some u → w.cell? (ad.add (i.toNat * 26 + j)) = some u := hc0
  obtain rfl := k23_open hK
  exact ⟨ad, e, hc 0 _ rfl, by rw [← add_field _ _ 1 (by omega)]; exact hc 1 _ rfl, by rw [← add_field _ _ 2 (by omega)]; exact hc 2 _ rfl, by rw [← add_field _ _ 3 (by omega)]; exact hc 3 _ rfl, by rw [← add_field _ _ 4 (by omega)]; exact hc 4 _ rfl, by rw [← add_field _ _ 5 (by omega)]; exact hc 5 _ rfl, by rw [← add_field _ _ 6 (by omega)]; exact hc 6 _ rfl, by rw [← add_field _ _ 7 (by omega)]; exact hc 7 _ rfl, by rw [← add_field _ _ 8 (by omega)]; exact hc 8 _ rfl, by rw [← add_field _ _ 9 (by omega)]; exact hc 9 _ rfl, by rw [← add_field _ _ 10 (by omega)]; exact hc 10 _ rfl, by rw [← add_field _ _ 11 (by omega)]; exact hc 11 _ rfl, by rw [← add_field _ _ 12 (by omega)]; exact hc 12 _ rfl, by rw [← add_field _ _ 13 (by omega)]; exact hc 13 _ rfl, by rw [← add_field _ _ 14 (by omega)]; exact hc 14 _ rfl, by rw [← add_field _ _ 15 (by omega)]; exact hc 15 _ rfl, by rw [← add_field _ _ 16 (by omega)]; exact hc 16 _ rfl, by rw [← add_field _ _ 17 (by omega)]; exact hc 17 _ rfl, by rw [← add_field _ _ 18 (by omega)]; exact hc 18 _ rfl, by rw [← add_field _ _ 19 (by omega)]; exact hc 19 _ rfl, by rw [← add_field _ _ 20 (by omega)]; exact hc 20 _ rfl, by rw [← add_field _ _ 21 (by omega)]; exact hc 21 _ rfl, by rw [← add_field _ _ 22 (by omega)]; exact hc 22 _ rfl, by rw [← add_field _ _ 23 (by omega)]; exact hc 23 _ rfl, by rw [← add_field _ _ 24 (by omega)]; exact hc 24 _ rfl, by rw [← add_field _ _ 25 (by omega)]; exact hc 25 _ rfl⟩

/-! #### struct type 48 -/
structure S48 where
  f0 : Int
  f1 : Int
  f2 : Int
def z48 : S48 := ⟨(0 : Int), (0 : Int), (0 : Int)⟩
def k48 : Kd S48 := Kd.iso (Kd.pair (Kd.int .u8) (Kd.pair (Kd.int .u8) (Kd.int .i8))) (fun x : S48 => (x.f0, x.f1, x.f2))
theorem k48_open {w : World} {x : S48} {cs : List Value} (h : k48.K w x cs) : cs = [.int .u8 x.f0, .int .u8 x.f1, .int .i8 x.f2] := by
  obtain ⟨_, _, rfl, rfl, ⟨_, _, rfl, rfl, rfl⟩⟩ := h
  exact rfl
theorem k48_openM {w : World} {base : Nat} {ok : Nat → Prop} {x : S48} {cs : List Value} (h : k48.M w base ok x cs) : cs = [.int .u8 x.f0, .int .u8 x.f1, .int .i8 x.f2] := by
  obtain ⟨_, _, rfl, rfl, ⟨_, _, rfl, rfl, rfl⟩⟩ := h
  exact rfl
theorem k48_mk (w : World) (x : S48)  : k48.K w x [.int .u8 x.f0, .int .u8 x.f1, .int .i8 x.f2] := ⟨[.int .u8 x.f0], [.int .u8 x.f1, .int .i8 x.f2], rfl, rfl, ⟨[.int .u8 x.f1], [.int .i8 x.f2], rfl, rfl, rfl⟩⟩
theorem k48_mkM (w : World) (base : Nat) (ok : Nat → Prop) (x : S48)  : k48.M w base ok x [.int .u8 x.f0, .int .u8 x.f1, .int .i8 x.f2] := ⟨[.int .u8 x.f0], [.int .u8 x.f1, .int .i8 x.f2], rfl, rfl, ⟨[.int .u8 x.f1], [.int .i8 x.f2], rfl, rfl, rfl⟩⟩
def rd_T48 (xs : List S48) (i : Int) : S48 := xs.getD i.toNat z48
theorem at_T48 {w : World} {A : Option Addr} {n : Nat} {xs : List S48} (h : Kd.C k48 w A n xs) (i : Int) (h0 : 0 ≤ i) (h1 : i < n) : ∃ ad , A = some ad ∧ w.cell? (ad.add (i.toNat * 3)) = some (.int .u8 (rd_T48 xs i).f0) ∧ w.cell? ⟨(ad.add (i.toNat * 3)).block, (ad.add (i.toNat * 3)).off + 1, none⟩ = some (.int .u8 (rd_T48 xs i).f1) ∧ w.cell? ⟨(ad.add (i.toNat * 3)).block, (ad.add (i.toNat * 3)).off + 2, none⟩ = some (.int .i8 (rd_T48 xs i).f2) := by
  obtain ⟨ad, c, e, _, hK, hc0⟩ := Kd.C_get h z48 i h0 h1
  have hc : ∀ j u, c[j]? = some u → w.cell? (ad.add (i.toNat * 3 + j)) = some u := hc0
  obtain rfl := k48_open hK
  exact ⟨ad, e, hc 0 _ rfl, by rw [← add_field _ _ 1 (by omega)]; exact hc 1 _ rfl, by rw [← add_field _ _ 2 (by omega)]; exact hc 2 _ rfl⟩

/-! #### struct type 130 -/
structure S130 where
  f0 : Int
  f1 : Int
  f2 : Int
def z130 : S130 := ⟨(0 : Int), (0 : Int), (0 : Int)⟩
def k130 : Kd S130 := Kd.iso (Kd.pair (Kd.int .u16) (Kd.pair (Kd.int .u16) (Kd.int .u16))) (fun x : S130 => (x.f0, x.f1, x.f2))
theorem k130_open {w : World} {x : S130} {cs : List Value} (h : k130.K w x cs) : cs = [.int .u16 x.f0, .int .u16 x.f1, .int .u16 x.f2] := by
  obtain ⟨_, _, rfl, rfl, ⟨_, _, rfl, rfl, rfl⟩⟩ := h
  exact rfl
theorem k130_openM {w : World} {base : Nat} {ok : Nat → Prop} {x : S130} {cs : List Value} (h : k130.M w base ok x cs) : cs = [.int .u16 x.f0, .int .u16 x.f1, .int .u16 x.f2] := by
  obtain ⟨_, _, rfl, rfl, ⟨_, _, rfl, rfl, rfl⟩⟩ := h
  exact rfl
theorem k130_mk (w : World) (x : S130)  : k130.K w x [.int .u16 x.f0, .int .u16 x.f1, .int .u16 x.f2] := ⟨[.int .u16 x.f0], [.int .u16 x.f1, .int .u16 x.f2], rfl, rfl, ⟨[.int .u16 x.f1], [.int .u16 x.f2], rfl, rfl, rfl⟩⟩
theorem k130_mkM (w : World) (base : Nat) (ok : Nat → Prop) (x : S130)  : k130.M w base ok x [.int .u16 x.f0, .int .u16 x.f1, .int .u16 x.f2] := ⟨[.int .u16 x.f0], [.int .u16 x.f1, .int .u16 x.f2], rfl, rfl, ⟨[.int .u16 x.f1], [.int .u16 x.f2], rfl, rfl, rfl⟩⟩
def rd_T130 (xs : List S130) (i : Int) : S130 := xs.getD i.toNat z130
theorem at_T130 {w : World} {A : Option Addr} {n : Nat} {xs : List S130} (h : Kd.C k130 w A n xs) (i : Int) (h0 : 0 ≤ i) (h1 : i < n) : ∃ ad , A = some ad ∧ w.cell? (ad.add (i.toNat * 3)) = some (.int .u16 (rd_T130 xs i).f0) ∧ w.cell? ⟨(ad.add (i.toNat * 3)).block, (ad.add (i.toNat * 3)).off + 1, none⟩ = some (.int .u16 (rd_T130 xs i).f1) ∧ w.cell? ⟨(ad.add (i.toNat * 3)).block, (ad.add (i.toNat * 3)).off + 2, none⟩ = some (.int .u16 (rd_T130 xs i).f2) := by
  obtain ⟨ad, c, e, _, hK, hc0⟩ := Kd.C_get h z130 i h0 h1
  have hc : ∀ j u, c[j]? = some u → w.cell? (ad.add (i.toNat * 3 + j)) = some u := hc0
  obtain rfl := k130_open hK
  exact ⟨ad, e, hc 0 _ rfl, by rw [← add_field _ _ 1 (by omega)]; exact hc 1 _ rfl, by rw [← add_field _ _ 2 (by omega)]; exact hc 2 _ rfl⟩

/-! #### struct type 133 -/
structure S133 where
  f0 : Int
  f1 : Int
  f2 : Int
def z133 : S133 := ⟨(0 : Int), (0 : Int), (0 : Int)⟩
def k133 : Kd S133 := Kd.iso (Kd.pair (Kd.int .u32) (Kd.pair (Kd.int .u32) (Kd.int .u32))) (fun x : S133 => (x.f0, x.f1, x.f2))
theorem k133_open {w : World} {x : S133} {cs : List Value} (h : k133.K w x cs) : cs = [.int .u32 x.f0, .int .u32 x.f1, .int .u32 x.f2] := by
  obtain ⟨_, _, rfl, rfl, ⟨_, _, rfl, rfl, rfl⟩⟩ := h
  exact rfl
theorem k133_openM {w : World} {base : Nat} {ok : Nat → Prop} {x : S133} {cs : List Value} (h : k133.M w base ok x cs) : cs = [.int .u32 x.f0, .int .u32 x.f1, .int .u32 x.f2] := by
  obtain ⟨_, _, rfl, rfl, ⟨_, _, rfl, rfl, rfl⟩⟩ := h
  exact rfl
theorem k133_mk (w : World) (x : S133)  : k133.K w x [.int .u32 x.f0, .int .u32 x.f1, .int .u32 x.f2] := ⟨[.int .u32 x.f0], [.int .u32 x.f1, .int .u32 x.f2], rfl, rfl, ⟨[.int .u32 x.f1], [.int .u32 x.f2], rfl, rfl, rfl⟩⟩
theorem k133_mkM (w : World) (base : Nat) (ok : Nat → Prop) (x : S133)  : k133.M w base ok x [.int .u32 x.f0, .int .u32 x.f1, .int .u32 x.f2] := ⟨[.int .u32 x.f0], [.int .u32 x.f1, .int .u32 x.f2], rfl, rfl, ⟨[.int .u32 x.f1], [.int .u32 x.f2], rfl, rfl, rfl⟩⟩
def rd_T133 (xs : List S133) (i : Int) : S133 := xs.getD i.toNat z133
theorem at_T133 {w : World} {A : Option Addr} {n : Nat} {xs : List S133} (h : Kd.C k133 w A n xs) (i : Int) (h0 : 0 ≤ i) (h1 : i < n) : ∃ ad , A = some ad ∧ w.cell? (ad.add (i.toNat * 3)) = some (.int .u32 (rd_T133 xs i).f0) ∧ w.cell? ⟨(ad.add (i.toNat * 3)).block, (ad.add (i.toNat * 3)).off + 1, none⟩ = some (.int .u32 (rd_T133 xs i).f1) ∧ w.cell? ⟨(ad.add (i.toNat * 3)).block, (ad.add (i.toNat * 3)).off + 2, none⟩ = some (.int .u32 (rd_T133 xs i).f2) := by
  obtain ⟨ad, c, e, _, hK, hc0⟩ := Kd.C_get h z133 i h0 h1
  have hc : ∀ j u, c[j]? = some u → w.cell? (ad.add (i.toNat * 3 + j)) = some u := hc0
  obtain rfl := k133_open hK
  exact ⟨ad, e, hc 0 _ rfl, by rw [← add_field _ _ 1 (by omega)]; exact hc 1 _ rfl, by rw [← add_field _ _ 2 (by omega)]; exact hc 2 _ rfl⟩

end Go.Proofs.YtkldhleiipfaaaaDoor.Q
