/-
  DERIVED: THE SHELF's CONTRACTS AT THIS DUMP, IN PLAIN WORDS (tools/lay-plain.mjs out of 'YtgkncgiglmdnaaaGreatDoorShASrc.lean', which tools/lay-shelf.mjs wrote): THE SAME DECLARATIONS UNDER THE SAME NAMES: 'import', 'namespace', 'open', 'def', 'theorem' AND NOTHING ELSE: no command of the shelf's: FOR A HAND-IN. Each laying: the table of numbers ('.._ren') and one theorem, a field a fact of the dump's own or the kernel's comparison; each contract: ONE APPLICATION.
-/
import Derived.Shelf.SlSorted.Search
import Derived.Ground.SlsoProg
import Derived.Test.YtgkncgiglmdnaaaGreatDoorProg
namespace Go.Proofs
open Go.Shelf
def Tryz.searchStrings_ren : Go.Shelf.Ren := ⟨fun | 15 => 172 | 23 => 199 | 16 => 198 | n => n, fun | 30 => 25 | 9 => 9 | 3 => 3 | 0 => 0 | 35 => 101 | 4 => 4 | 38 => 170 | n => n, fun | n => n⟩
theorem Tryz.searchStrings : Go.Proofs.SlLaysO.n15 Tryz.prog Tryz.searchStrings_ren := {
  mixed := by kernel_rfl
  f15 := Tryz.func172.trans (congrArg some (by kernel_rfl))
  f16 := Tryz.func198.trans (congrArg some (by kernel_rfl))
  f23 := Tryz.func199.trans (congrArg some (by kernel_rfl))
  t0 := Tryz.underlying0
  a0 := Tryz.isAgg0
  z0 := Tryz.sizeOf0
  v0 := Tryz.zeroValue0
  t3 := Tryz.underlying3
  a3 := Tryz.isAgg3
  z3 := Tryz.sizeOf3
  v3 := Tryz.zeroValue3
  t4 := Tryz.underlying4
  a4 := Tryz.isAgg4
  z4 := Tryz.sizeOf4
  v4 := Tryz.zeroValue4
  t9 := Tryz.underlying9
  a9 := Tryz.isAgg9
  z9 := Tryz.sizeOf9
  v9 := Tryz.zeroValue9
  t30 := Tryz.underlying25
  a30 := Tryz.isAgg25
  z30 := Tryz.sizeOf25
  v30 := Tryz.zeroValue25
  t35 := Tryz.underlying101
  a35 := Tryz.isAgg101
  z35 := Tryz.sizeOf101
  v35 := Tryz.zeroValue101
  t38 := Tryz.underlying170
  a38 := Tryz.isAgg170
  z38 := Tryz.sizeOf170
  v38 := Tryz.zeroValue170 }
end Go.Proofs
