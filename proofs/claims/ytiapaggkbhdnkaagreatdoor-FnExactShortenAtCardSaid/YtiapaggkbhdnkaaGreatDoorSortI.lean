/-
  DERIVED: THE SHELF's CONTRACTS AT THIS DUMP, IN PLAIN WORDS (tools/lay-plain.mjs out of 'TryzSortI.lean', which tools/lay-shelf.mjs wrote): THE SAME DECLARATIONS UNDER THE SAME NAMES: 'import', 'namespace', 'open', 'def', 'theorem' AND NOTHING ELSE: no command of the shelf's: FOR A HAND-IN. Each laying: the table of numbers ('.._ren') and one theorem, a field a fact of the dump's own or the kernel's comparison; each contract: ONE APPLICATION.
-/
import Derived.Shelf.SortG.Plain
import Derived.Shelf.SortG.SortNone
import Derived.Shelf.SlGeneric
import Derived.Ground.SlgnProg
import Derived.Test.YtiapaggkbhdnkaaGreatDoorProg
namespace Go.Proofs
open Go.Shelf
def Tryz.lSortI_ren : Go.Shelf.Ren := ⟨fun | 53 => 24 | 64 => 44 | 63 => 43 | 78 => 71 | 79 => 72 | 70 => 62 | 71 => 63 | 72 => 64 | 73 => 65 | 74 => 66 | 75 => 67 | 59 => 68 | 76 => 69 | 77 => 70 | 88 => 83 | 89 => 84 | 90 => 85 | 91 => 86 | 92 => 87 | 68 => 88 | 96 => 95 | n => n, fun | 22 => 23 | 23 => 2 | 3 => 3 | 51 => 63 | 0 => 0 | 67 => 80 | 69 => 94 | 4 => 4 | 61 => 85 | 60 => 84 | 44 => 90 | 5 => 5 | 9 => 9 | 75 => 120 | 79 => 124 | 83 => 130 | 84 => 131 | n => n, fun | n => n⟩
theorem Tryz.lSortI : Go.Proofs.SlLaysN.n53 Tryz.prog Tryz.lSortI_ren := {
  mixed := by kernel_rfl
  f53 := ⟨Tryz.f24.name, by decide, Tryz.func24.trans (congrArg some (by kernel_rfl))⟩
  f59 := ⟨Tryz.f68.name, by decide, Tryz.func68.trans (congrArg some (by kernel_rfl))⟩
  f63 := ⟨Tryz.f43.name, by decide, Tryz.func43.trans (congrArg some (by kernel_rfl))⟩
  f64 := Tryz.func44.trans (congrArg some (by kernel_rfl))
  f68 := ⟨Tryz.f88.name, by decide, Tryz.func88.trans (congrArg some (by kernel_rfl))⟩
  f70 := ⟨Tryz.f62.name, by decide, Tryz.func62.trans (congrArg some (by kernel_rfl))⟩
  f71 := ⟨Tryz.f63.name, by decide, Tryz.func63.trans (congrArg some (by kernel_rfl))⟩
  f72 := ⟨Tryz.f64.name, by decide, Tryz.func64.trans (congrArg some (by kernel_rfl))⟩
  f73 := ⟨Tryz.f65.name, by decide, Tryz.func65.trans (congrArg some (by kernel_rfl))⟩
  f74 := ⟨Tryz.f66.name, by decide, Tryz.func66.trans (congrArg some (by kernel_rfl))⟩
  f75 := ⟨Tryz.f67.name, by decide, Tryz.func67.trans (congrArg some (by kernel_rfl))⟩
  f76 := ⟨Tryz.f69.name, by decide, Tryz.func69.trans (congrArg some (by kernel_rfl))⟩
  f77 := ⟨Tryz.f70.name, by decide, Tryz.func70.trans (congrArg some (by kernel_rfl))⟩
  f78 := Tryz.func71.trans (congrArg some (by kernel_rfl))
  f79 := Tryz.func72.trans (congrArg some (by kernel_rfl))
  f88 := ⟨Tryz.f83.name, by decide, Tryz.func83.trans (congrArg some (by kernel_rfl))⟩
  f89 := Tryz.func84.trans (congrArg some (by kernel_rfl))
  f90 := Tryz.func85.trans (congrArg some (by kernel_rfl))
  f91 := ⟨Tryz.f86.name, by decide, Tryz.func86.trans (congrArg some (by kernel_rfl))⟩
  f92 := ⟨Tryz.f87.name, by decide, Tryz.func87.trans (congrArg some (by kernel_rfl))⟩
  f96 := ⟨Tryz.f95.name, by decide, Tryz.func95.trans (congrArg some (by kernel_rfl))⟩
  t0 := Tryz.underlying0
  a0 := Tryz.isAgg0
  z0 := Tryz.sizeOf0
  v0 := Tryz.zeroValue0
  t3 := Tryz.underlying3
  a3 := Tryz.isAgg3
  z3 := Tryz.sizeOf3
  v3 := Tryz.zeroValue3
  t4 := Tryz.underlying4
  a4 := Tryz.isAgg4
  z4 := Tryz.sizeOf4
  v4 := Tryz.zeroValue4
  t5 := Tryz.underlying5
  a5 := Tryz.isAgg5
  z5 := Tryz.sizeOf5
  v5 := Tryz.zeroValue5
  t9 := Tryz.underlying9
  a9 := Tryz.isAgg9
  z9 := Tryz.sizeOf9
  v9 := Tryz.zeroValue9
  t22 := Tryz.underlying23
  a22 := Tryz.isAgg23
  z22 := Tryz.sizeOf23
  v22 := Tryz.zeroValue23
  t23 := Tryz.underlying2
  a23 := Tryz.isAgg2
  z23 := Tryz.sizeOf2
  v23 := Tryz.zeroValue2
  t44 := Tryz.underlying90
  a44 := Tryz.isAgg90
  z44 := Tryz.sizeOf90
  v44 := Tryz.zeroValue90
  t51 := Tryz.underlying63
  a51 := Tryz.isAgg63
  z51 := Tryz.sizeOf63
  v51 := Tryz.zeroValue63
  t60 := Tryz.underlying84
  a60 := Tryz.isAgg84
  z60 := Tryz.sizeOf84
  v60 := Tryz.zeroValue84
  t61 := Tryz.underlying85
  a61 := Tryz.isAgg85
  z61 := Tryz.sizeOf85
  v61 := Tryz.zeroValue85
  t67 := Tryz.underlying80
  a67 := Tryz.isAgg80
  z67 := Tryz.sizeOf80
  v67 := Tryz.zeroValue80
  t69 := Tryz.underlying94
  a69 := Tryz.isAgg94
  z69 := Tryz.sizeOf94
  v69 := Tryz.zeroValue94
  t75 := Tryz.underlying120
  a75 := Tryz.isAgg120
  z75 := Tryz.sizeOf120
  v75 := Tryz.zeroValue120
  t79 := Tryz.underlying124
  a79 := Tryz.isAgg124
  z79 := Tryz.sizeOf124
  v79 := Tryz.zeroValue124
  t83 := Tryz.underlying130
  a83 := Tryz.isAgg130
  z83 := Tryz.sizeOf130
  v83 := Tryz.zeroValue130
  t84 := Tryz.underlying131
  a84 := Tryz.isAgg131
  z84 := Tryz.sizeOf131
  v84 := Tryz.zeroValue131 }
end Go.Proofs
