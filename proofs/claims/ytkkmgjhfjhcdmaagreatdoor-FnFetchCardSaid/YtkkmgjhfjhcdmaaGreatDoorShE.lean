/-
  DERIVED: THE SHELF's CONTRACTS AT THIS DUMP, IN PLAIN WORDS (tools/lay-plain.mjs out of 'YtkkmgjhfjhcdmaaGreatDoorShESrc.lean', which tools/lay-shelf.mjs wrote): THE SAME DECLARATIONS UNDER THE SAME NAMES: 'import', 'namespace', 'open', 'def', 'theorem' AND NOTHING ELSE: no command of the shelf's: FOR A HAND-IN. Each laying: the table of numbers ('.._ren') and one theorem, a field a fact of the dump's own or the kernel's comparison; each contract: ONE APPLICATION.
-/
import Derived.Shelf.LaysM
import Derived.Shelf.Hex.More
import Derived.Ground.PaProg
import Derived.Test.YtkkmgjhfjhcdmaaGreatDoorProg
namespace Go.Proofs
open Go.Shelf
def Tryz.hexE_ren : Go.Shelf.Ren := ⟨fun | 39 => 116 | 41 => 155 | 40 => 156 | n => n, fun | 30 => 22 | 9 => 9 | 3 => 3 | 0 => 0 | 5 => 5 | 46 => 205 | n => n, fun | n => n⟩
theorem Tryz.hexE : Go.Proofs.Lays.ph39 Tryz.prog Tryz.hexE_ren := {
  mixed := by kernel_rfl
  f39 := Tryz.func116.trans (congrArg some (by kernel_rfl))
  f40 := Tryz.func156.trans (congrArg some (by kernel_rfl))
  f41 := Tryz.func155.trans (congrArg some (by kernel_rfl))
  t0 := Tryz.underlying0
  a0 := Tryz.isAgg0
  z0 := Tryz.sizeOf0
  v0 := Tryz.zeroValue0
  t3 := Tryz.underlying3
  a3 := Tryz.isAgg3
  z3 := Tryz.sizeOf3
  v3 := Tryz.zeroValue3
  t5 := Tryz.underlying5
  a5 := Tryz.isAgg5
  z5 := Tryz.sizeOf5
  v5 := Tryz.zeroValue5
  t9 := Tryz.underlying9
  a9 := Tryz.isAgg9
  z9 := Tryz.sizeOf9
  v9 := Tryz.zeroValue9
  t30 := Tryz.underlying22
  a30 := Tryz.isAgg22
  z30 := Tryz.sizeOf22
  v30 := Tryz.zeroValue22
  t46 := Tryz.underlying205
  a46 := Tryz.isAgg205
  z46 := Tryz.sizeOf205
  v46 := Tryz.zeroValue205
  info5 := by kernel_rfl }
end Go.Proofs
