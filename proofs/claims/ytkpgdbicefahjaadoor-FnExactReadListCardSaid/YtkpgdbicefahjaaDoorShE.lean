/-
  DERIVED: THE SHELF's CONTRACTS AT THIS DUMP, IN PLAIN WORDS (tools/lay-plain.mjs out of 'YtkpgdbicefahjaaDoorShESrc.lean', which tools/lay-shelf.mjs wrote): THE SAME DECLARATIONS UNDER THE SAME NAMES: 'import', 'namespace', 'open', 'def', 'theorem' AND NOTHING ELSE: no command of the shelf's: FOR A HAND-IN. Each laying: the table of numbers ('.._ren') and one theorem, a field a fact of the dump's own or the kernel's comparison; each contract: ONE APPLICATION.
-/
import Derived.Shelf.LaysM
import Derived.Shelf.Hex.More
import Derived.Ground.PaProg
import Derived.Test.YtkpgdbicefahjaaDoorProg
namespace Go.Proofs
open Go.Shelf
def Tryd.hexE_ren : Go.Shelf.Ren := ⟨fun | 39 => 29 | 41 => 55 | 40 => 56 | n => n, fun | 30 => 33 | 9 => 9 | 3 => 3 | 0 => 0 | 5 => 5 | 46 => 85 | n => n, fun | n => n⟩
theorem Tryd.hexE : Go.Proofs.Lays.ph39 Tryd.prog Tryd.hexE_ren := {
  mixed := by kernel_rfl
  f39 := Tryd.func29.trans (congrArg some (by kernel_rfl))
  f40 := Tryd.func56.trans (congrArg some (by kernel_rfl))
  f41 := Tryd.func55.trans (congrArg some (by kernel_rfl))
  t0 := Tryd.underlying0
  a0 := Tryd.isAgg0
  z0 := Tryd.sizeOf0
  v0 := Tryd.zeroValue0
  t3 := Tryd.underlying3
  a3 := Tryd.isAgg3
  z3 := Tryd.sizeOf3
  v3 := Tryd.zeroValue3
  t5 := Tryd.underlying5
  a5 := Tryd.isAgg5
  z5 := Tryd.sizeOf5
  v5 := Tryd.zeroValue5
  t9 := Tryd.underlying9
  a9 := Tryd.isAgg9
  z9 := Tryd.sizeOf9
  v9 := Tryd.zeroValue9
  t30 := Tryd.underlying33
  a30 := Tryd.isAgg33
  z30 := Tryd.sizeOf33
  v30 := Tryd.zeroValue33
  t46 := Tryd.underlying85
  a46 := Tryd.isAgg85
  z46 := Tryd.sizeOf85
  v46 := Tryd.zeroValue85
  info5 := by kernel_rfl }
end Go.Proofs
