/-
  DERIVED: THE SHELF's CONTRACTS AT THIS DUMP, IN PLAIN WORDS (tools/lay-plain.mjs out of 'YtkkmgjhfjhcdmaaGreatDoorShFSrc.lean', which tools/lay-shelf.mjs wrote): THE SAME DECLARATIONS UNDER THE SAME NAMES: 'import', 'namespace', 'open', 'def', 'theorem' AND NOTHING ELSE: no command of the shelf's: FOR A HAND-IN. Each laying: the table of numbers ('.._ren') and one theorem, a field a fact of the dump's own or the kernel's comparison; each contract: ONE APPLICATION.
-/
import Derived.Shelf.LaysM
import Derived.Shelf.Hex.Decode
import Derived.Ground.PaProg
import Derived.Test.YtkkmgjhfjhcdmaaGreatDoorProg
namespace Go.Proofs
open Go.Shelf
def Tryz.hexD_ren : Go.Shelf.Ren := ⟨fun | 43 => 139 | 42 => 170 | 44 => 171 | n => n, fun | 9 => 9 | 30 => 22 | 35 => 156 | 3 => 3 | 38 => 157 | 4 => 4 | 0 => 0 | 5 => 5 | 47 => 221 | 46 => 205 | 45 => 198 | n => n, fun | 0 => 0 | n => n⟩
theorem Tryz.hexD : Go.Proofs.Lays.ph43 Tryz.prog Tryz.hexD_ren := {
  mixed := by kernel_rfl
  f42 := Tryz.func170.trans (congrArg some (by kernel_rfl))
  f43 := Tryz.func139.trans (congrArg some (by kernel_rfl))
  f44 := Tryz.func171.trans (congrArg some (by kernel_rfl))
  t0 := Tryz.underlying0
  a0 := Tryz.isAgg0
  z0 := Tryz.sizeOf0
  v0 := Tryz.zeroValue0
  t3 := Tryz.underlying3
  a3 := Tryz.isAgg3
  z3 := Tryz.sizeOf3
  v3 := Tryz.zeroValue3
  t4 := Tryz.underlying4
  a4 := Tryz.isAgg4
  z4 := Tryz.sizeOf4
  v4 := Tryz.zeroValue4
  t5 := Tryz.underlying5
  a5 := Tryz.isAgg5
  z5 := Tryz.sizeOf5
  v5 := Tryz.zeroValue5
  t9 := Tryz.underlying9
  a9 := Tryz.isAgg9
  z9 := Tryz.sizeOf9
  v9 := Tryz.zeroValue9
  t30 := Tryz.underlying22
  a30 := Tryz.isAgg22
  z30 := Tryz.sizeOf22
  v30 := Tryz.zeroValue22
  t35 := Tryz.underlying156
  a35 := Tryz.isAgg156
  z35 := Tryz.sizeOf156
  v35 := Tryz.zeroValue156
  t38 := Tryz.underlying157
  a38 := Tryz.isAgg157
  z38 := Tryz.sizeOf157
  v38 := Tryz.zeroValue157
  t45 := Tryz.underlying198
  a45 := Tryz.isAgg198
  z45 := Tryz.sizeOf198
  v45 := Tryz.zeroValue198
  t46 := Tryz.underlying205
  a46 := Tryz.isAgg205
  z46 := Tryz.sizeOf205
  v46 := Tryz.zeroValue205
  t47 := Tryz.underlying221
  a47 := Tryz.isAgg221
  z47 := Tryz.sizeOf221
  v47 := Tryz.zeroValue221
  g0 := by kernel_rfl
  info5 := by kernel_rfl }
end Go.Proofs
