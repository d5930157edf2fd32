/-
  DERIVED: THE SHELF's CONTRACTS AT THIS DUMP, IN PLAIN WORDS (tools/lay-plain.mjs out of 'YtkpgdbicefahjaaDoorShFSrc.lean', which tools/lay-shelf.mjs wrote): THE SAME DECLARATIONS UNDER THE SAME NAMES: 'import', 'namespace', 'open', 'def', 'theorem' AND NOTHING ELSE: no command of the shelf's: FOR A HAND-IN. Each laying: the table of numbers ('.._ren') and one theorem, a field a fact of the dump's own or the kernel's comparison; each contract: ONE APPLICATION.
-/
import Derived.Shelf.LaysM
import Derived.Shelf.Hex.Decode
import Derived.Ground.PaProg
import Derived.Test.YtkpgdbicefahjaaDoorProg
namespace Go.Proofs
open Go.Shelf
def Tryd.hexD_ren : Go.Shelf.Ren := ⟨fun | 43 => 48 | 42 => 68 | 44 => 69 | n => n, fun | 9 => 9 | 30 => 33 | 35 => 65 | 3 => 3 | 38 => 66 | 4 => 4 | 0 => 0 | 5 => 5 | 47 => 94 | 46 => 85 | 45 => 129 | n => n, fun | 0 => 0 | n => n⟩
theorem Tryd.hexD : Go.Proofs.Lays.ph43 Tryd.prog Tryd.hexD_ren := {
  mixed := by kernel_rfl
  f42 := Tryd.func68.trans (congrArg some (by kernel_rfl))
  f43 := Tryd.func48.trans (congrArg some (by kernel_rfl))
  f44 := Tryd.func69.trans (congrArg some (by kernel_rfl))
  t0 := Tryd.underlying0
  a0 := Tryd.isAgg0
  z0 := Tryd.sizeOf0
  v0 := Tryd.zeroValue0
  t3 := Tryd.underlying3
  a3 := Tryd.isAgg3
  z3 := Tryd.sizeOf3
  v3 := Tryd.zeroValue3
  t4 := Tryd.underlying4
  a4 := Tryd.isAgg4
  z4 := Tryd.sizeOf4
  v4 := Tryd.zeroValue4
  t5 := Tryd.underlying5
  a5 := Tryd.isAgg5
  z5 := Tryd.sizeOf5
  v5 := Tryd.zeroValue5
  t9 := Tryd.underlying9
  a9 := Tryd.isAgg9
  z9 := Tryd.sizeOf9
  v9 := Tryd.zeroValue9
  t30 := Tryd.underlying33
  a30 := Tryd.isAgg33
  z30 := Tryd.sizeOf33
  v30 := Tryd.zeroValue33
  t35 := Tryd.underlying65
  a35 := Tryd.isAgg65
  z35 := Tryd.sizeOf65
  v35 := Tryd.zeroValue65
  t38 := Tryd.underlying66
  a38 := Tryd.isAgg66
  z38 := Tryd.sizeOf66
  v38 := Tryd.zeroValue66
  t45 := Tryd.underlying129
  a45 := Tryd.isAgg129
  z45 := Tryd.sizeOf129
  v45 := Tryd.zeroValue129
  t46 := Tryd.underlying85
  a46 := Tryd.isAgg85
  z46 := Tryd.sizeOf85
  v46 := Tryd.zeroValue85
  t47 := Tryd.underlying94
  a47 := Tryd.isAgg94
  z47 := Tryd.sizeOf94
  v47 := Tryd.zeroValue94
  g0 := by kernel_rfl
  info5 := by kernel_rfl }
end Go.Proofs
