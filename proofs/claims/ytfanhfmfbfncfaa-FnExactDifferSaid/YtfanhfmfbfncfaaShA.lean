/-
  DERIVED: THE SHELF's CONTRACTS AT THIS DUMP, IN PLAIN WORDS (tools/lay-plain.mjs out of 'YtfanhfmfbfncfaaShSrc.lean', which tools/lay-shelf.mjs wrote): THE SAME DECLARATIONS UNDER THE SAME NAMES: 'import', 'namespace', 'open', 'def', 'theorem' AND NOTHING ELSE: no command of the shelf's: FOR A HAND-IN. Each laying: the table of numbers ('.._ren') and one theorem, a field a fact of the dump's own or the kernel's comparison; each contract: ONE APPLICATION.
-/
import Derived.Shelf.SlSorted.Search
import Derived.Ground.SlsoProg
import Derived.Test.YtfanhfmfbfncfaaProg
namespace Go.Proofs
open Go.Shelf
def Try.searchStrings_ren : Go.Shelf.Ren := ⟨fun | 15 => 114 | 23 => 131 | 16 => 130 | n => n, fun | 30 => 23 | 9 => 9 | 3 => 3 | 0 => 0 | 35 => 142 | 4 => 4 | 38 => 175 | n => n, fun | n => n⟩
theorem Try.searchStrings : Go.Proofs.SlLaysO.n15 Try.prog Try.searchStrings_ren := {
  mixed := by kernel_rfl
  f15 := Try.func114.trans (congrArg some (by kernel_rfl))
  f16 := Try.func130.trans (congrArg some (by kernel_rfl))
  f23 := Try.func131.trans (congrArg some (by kernel_rfl))
  t0 := Try.underlying0
  a0 := Try.isAgg0
  z0 := Try.sizeOf0
  v0 := Try.zeroValue0
  t3 := Try.underlying3
  a3 := Try.isAgg3
  z3 := Try.sizeOf3
  v3 := Try.zeroValue3
  t4 := Try.underlying4
  a4 := Try.isAgg4
  z4 := Try.sizeOf4
  v4 := Try.zeroValue4
  t9 := Try.underlying9
  a9 := Try.isAgg9
  z9 := Try.sizeOf9
  v9 := Try.zeroValue9
  t30 := Try.underlying23
  a30 := Try.isAgg23
  z30 := Try.sizeOf23
  v30 := Try.zeroValue23
  t35 := Try.underlying142
  a35 := Try.isAgg142
  z35 := Try.sizeOf142
  v35 := Try.zeroValue142
  t38 := Try.underlying175
  a38 := Try.isAgg175
  z38 := Try.sizeOf175
  v38 := Try.zeroValue175 }
end Go.Proofs
