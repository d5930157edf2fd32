/-
  DERIVED: THE SHELF's CONTRACTS AT THIS DUMP, IN PLAIN WORDS (tools/lay-plain.mjs out of 'YtgkncgiglmdnaaaGreatDoorShCSrc.lean', which tools/lay-shelf.mjs wrote): THE SAME DECLARATIONS UNDER THE SAME NAMES: 'import', 'namespace', 'open', 'def', 'theorem' AND NOTHING ELSE: no command of the shelf's: FOR A HAND-IN. Each laying: the table of numbers ('.._ren') and one theorem, a field a fact of the dump's own or the kernel's comparison; each contract: ONE APPLICATION.
-/
import Derived.Shelf.Sort.Plain
import Derived.Shelf.Slices.In.SortNone2
import Derived.Ground.NamesProg
import Derived.Test.YtgkncgiglmdnaaaGreatDoorProg
namespace Go.Proofs
open Go.Shelf
def Tryz.lays192_ren : Go.Shelf.Ren := ⟨fun | 192 => 166 | 190 => 193 | 125 => 219 | 258 => 218 | 128 => 253 | 129 => 233 | 302 => 244 | 303 => 245 | 304 => 246 | 305 => 247 | 306 => 248 | 307 => 249 | 308 => 250 | 309 => 251 | 310 => 252 | 333 => 259 | 329 => 260 | 330 => 261 | 334 => 262 | 335 => 263 | 336 => 264 | 344 => 266 | n => n, fun | 31 => 25 | 0 => 0 | 9 => 9 | 3 => 3 | 46 => 170 | 51 => 247 | 53 => 112 | 4 => 4 | 183 => 255 | 182 => 254 | 131 => 154 | 5 => 5 | 218 => 267 | 222 => 271 | 228 => 275 | 229 => 276 | n => n, fun | n => n⟩
theorem Tryz.lays192 : Go.Proofs.Lays.n192 Tryz.prog Tryz.lays192_ren := {
  mixed := by kernel_rfl
  f125 := Tryz.func219.trans (congrArg some (by kernel_rfl))
  f128 := Tryz.func253.trans (congrArg some (by kernel_rfl))
  f129 := Tryz.func233.trans (congrArg some (by kernel_rfl))
  f190 := Tryz.func193.trans (congrArg some (by kernel_rfl))
  f192 := Tryz.func166.trans (congrArg some (by kernel_rfl))
  f258 := Tryz.func218.trans (congrArg some (by kernel_rfl))
  f302 := Tryz.func244.trans (congrArg some (by kernel_rfl))
  f303 := Tryz.func245.trans (congrArg some (by kernel_rfl))
  f304 := Tryz.func246.trans (congrArg some (by kernel_rfl))
  f305 := Tryz.func247.trans (congrArg some (by kernel_rfl))
  f306 := Tryz.func248.trans (congrArg some (by kernel_rfl))
  f307 := Tryz.func249.trans (congrArg some (by kernel_rfl))
  f308 := Tryz.func250.trans (congrArg some (by kernel_rfl))
  f309 := Tryz.func251.trans (congrArg some (by kernel_rfl))
  f310 := Tryz.func252.trans (congrArg some (by kernel_rfl))
  f329 := Tryz.func260.trans (congrArg some (by kernel_rfl))
  f330 := Tryz.func261.trans (congrArg some (by kernel_rfl))
  f333 := Tryz.func259.trans (congrArg some (by kernel_rfl))
  f334 := Tryz.func262.trans (congrArg some (by kernel_rfl))
  f335 := Tryz.func263.trans (congrArg some (by kernel_rfl))
  f336 := Tryz.func264.trans (congrArg some (by kernel_rfl))
  f344 := Tryz.func266.trans (congrArg some (by kernel_rfl))
  t0 := Tryz.underlying0
  a0 := Tryz.isAgg0
  z0 := Tryz.sizeOf0
  v0 := Tryz.zeroValue0
  t3 := Tryz.underlying3
  a3 := Tryz.isAgg3
  z3 := Tryz.sizeOf3
  v3 := Tryz.zeroValue3
  t4 := Tryz.underlying4
  a4 := Tryz.isAgg4
  z4 := Tryz.sizeOf4
  v4 := Tryz.zeroValue4
  t5 := Tryz.underlying5
  a5 := Tryz.isAgg5
  z5 := Tryz.sizeOf5
  v5 := Tryz.zeroValue5
  t9 := Tryz.underlying9
  a9 := Tryz.isAgg9
  z9 := Tryz.sizeOf9
  v9 := Tryz.zeroValue9
  t31 := Tryz.underlying25
  a31 := Tryz.isAgg25
  z31 := Tryz.sizeOf25
  v31 := Tryz.zeroValue25
  t46 := Tryz.underlying170
  a46 := Tryz.isAgg170
  z46 := Tryz.sizeOf170
  v46 := Tryz.zeroValue170
  t51 := Tryz.underlying247
  a51 := Tryz.isAgg247
  z51 := Tryz.sizeOf247
  v51 := Tryz.zeroValue247
  t53 := Tryz.underlying112
  a53 := Tryz.isAgg112
  z53 := Tryz.sizeOf112
  v53 := Tryz.zeroValue112
  t131 := Tryz.underlying154
  a131 := Tryz.isAgg154
  z131 := Tryz.sizeOf154
  v131 := Tryz.zeroValue154
  t182 := Tryz.underlying254
  a182 := Tryz.isAgg254
  z182 := Tryz.sizeOf254
  v182 := Tryz.zeroValue254
  t183 := Tryz.underlying255
  a183 := Tryz.isAgg255
  z183 := Tryz.sizeOf255
  v183 := Tryz.zeroValue255
  t218 := Tryz.underlying267
  a218 := Tryz.isAgg267
  z218 := Tryz.sizeOf267
  v218 := Tryz.zeroValue267
  t222 := Tryz.underlying271
  a222 := Tryz.isAgg271
  z222 := Tryz.sizeOf271
  v222 := Tryz.zeroValue271
  t228 := Tryz.underlying275
  a228 := Tryz.isAgg275
  z228 := Tryz.sizeOf275
  v228 := Tryz.zeroValue275
  t229 := Tryz.underlying276
  a229 := Tryz.isAgg276
  z229 := Tryz.sizeOf276
  v229 := Tryz.zeroValue276 }
end Go.Proofs
