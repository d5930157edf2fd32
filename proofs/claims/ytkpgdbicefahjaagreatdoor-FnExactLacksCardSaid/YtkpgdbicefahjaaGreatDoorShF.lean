/-
  DERIVED: THE SHELF's CONTRACTS AT THIS DUMP, IN PLAIN WORDS (tools/lay-plain.mjs out of 'YtkpgdbicefahjaaGreatDoorShFSrc.lean', which tools/lay-shelf.mjs wrote): THE SAME DECLARATIONS UNDER THE SAME NAMES: 'import', 'namespace', 'open', 'def', 'theorem' AND NOTHING ELSE: no command of the shelf's: FOR A HAND-IN. Each laying: the table of numbers ('.._ren') and one theorem, a field a fact of the dump's own or the kernel's comparison; each contract: ONE APPLICATION.
-/
import Derived.Shelf.LaysM
import Derived.Shelf.Hex.Decode
import Derived.Ground.PaProg
import Derived.Test.YtkpgdbicefahjaaGreatDoorProg
namespace Go.Proofs
open Go.Shelf
def Tryz.hexD_ren : Go.Shelf.Ren := ⟨fun | 43 => 75 | 42 => 117 | 44 => 118 | n => n, fun | 9 => 9 | 30 => 37 | 35 => 96 | 3 => 3 | 38 => 97 | 4 => 4 | 0 => 0 | 5 => 5 | 47 => 158 | 46 => 136 | 45 => 135 | n => n, fun | 0 => 0 | n => n⟩
theorem Tryz.hexD : Go.Proofs.Lays.ph43 Tryz.prog Tryz.hexD_ren := {
  mixed := by kernel_rfl
  f42 := Tryz.func117.trans (congrArg some (by kernel_rfl))
  f43 := Tryz.func75.trans (congrArg some (by kernel_rfl))
  f44 := Tryz.func118.trans (congrArg some (by kernel_rfl))
  t0 := Tryz.underlying0
  a0 := Tryz.isAgg0
  z0 := Tryz.sizeOf0
  v0 := Tryz.zeroValue0
  t3 := Tryz.underlying3
  a3 := Tryz.isAgg3
  z3 := Tryz.sizeOf3
  v3 := Tryz.zeroValue3
  t4 := Tryz.underlying4
  a4 := Tryz.isAgg4
  z4 := Tryz.sizeOf4
  v4 := Tryz.zeroValue4
  t5 := Tryz.underlying5
  a5 := Tryz.isAgg5
  z5 := Tryz.sizeOf5
  v5 := Tryz.zeroValue5
  t9 := Tryz.underlying9
  a9 := Tryz.isAgg9
  z9 := Tryz.sizeOf9
  v9 := Tryz.zeroValue9
  t30 := Tryz.underlying37
  a30 := Tryz.isAgg37
  z30 := Tryz.sizeOf37
  v30 := Tryz.zeroValue37
  t35 := Tryz.underlying96
  a35 := Tryz.isAgg96
  z35 := Tryz.sizeOf96
  v35 := Tryz.zeroValue96
  t38 := Tryz.underlying97
  a38 := Tryz.isAgg97
  z38 := Tryz.sizeOf97
  v38 := Tryz.zeroValue97
  t45 := Tryz.underlying135
  a45 := Tryz.isAgg135
  z45 := Tryz.sizeOf135
  v45 := Tryz.zeroValue135
  t46 := Tryz.underlying136
  a46 := Tryz.isAgg136
  z46 := Tryz.sizeOf136
  v46 := Tryz.zeroValue136
  t47 := Tryz.underlying158
  a47 := Tryz.isAgg158
  z47 := Tryz.sizeOf158
  v47 := Tryz.zeroValue158
  g0 := by kernel_rfl
  info5 := by kernel_rfl }
end Go.Proofs
