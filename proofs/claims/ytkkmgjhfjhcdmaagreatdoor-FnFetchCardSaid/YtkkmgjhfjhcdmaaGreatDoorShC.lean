/-
  DERIVED: THE SHELF's CONTRACTS AT THIS DUMP, IN PLAIN WORDS (tools/lay-plain.mjs out of 'YtkkmgjhfjhcdmaaGreatDoorShCSrc.lean', which tools/lay-shelf.mjs wrote): THE SAME DECLARATIONS UNDER THE SAME NAMES: 'import', 'namespace', 'open', 'def', 'theorem' AND NOTHING ELSE: no command of the shelf's: FOR A HAND-IN. Each laying: the table of numbers ('.._ren') and one theorem, a field a fact of the dump's own or the kernel's comparison; each contract: ONE APPLICATION.
-/
import Derived.Shelf.Sort.Plain
import Derived.Shelf.Slices.In.SortNone2
import Derived.Ground.NamesProg
import Derived.Test.YtkkmgjhfjhcdmaaGreatDoorProg
namespace Go.Proofs
open Go.Shelf
def Tryz.lays192_ren : Go.Shelf.Ren := ⟨fun | 192 => 111 | 190 => 153 | 125 => 180 | 258 => 179 | 128 => 214 | 129 => 215 | 302 => 205 | 303 => 206 | 304 => 207 | 305 => 208 | 306 => 209 | 307 => 210 | 308 => 211 | 309 => 212 | 310 => 213 | 333 => 230 | 329 => 231 | 330 => 232 | 334 => 233 | 335 => 234 | 336 => 235 | 344 => 248 | n => n, fun | 31 => 24 | 0 => 0 | 9 => 9 | 3 => 3 | 46 => 205 | 51 => 232 | 53 => 103 | 4 => 4 | 183 => 226 | 182 => 225 | 131 => 99 | 5 => 5 | 218 => 248 | 222 => 252 | 228 => 261 | 229 => 262 | n => n, fun | n => n⟩
theorem Tryz.lays192 : Go.Proofs.Lays.n192 Tryz.prog Tryz.lays192_ren := {
  mixed := by kernel_rfl
  f125 := Tryz.func180.trans (congrArg some (by kernel_rfl))
  f128 := Tryz.func214.trans (congrArg some (by kernel_rfl))
  f129 := Tryz.func215.trans (congrArg some (by kernel_rfl))
  f190 := Tryz.func153.trans (congrArg some (by kernel_rfl))
  f192 := Tryz.func111.trans (congrArg some (by kernel_rfl))
  f258 := Tryz.func179.trans (congrArg some (by kernel_rfl))
  f302 := Tryz.func205.trans (congrArg some (by kernel_rfl))
  f303 := Tryz.func206.trans (congrArg some (by kernel_rfl))
  f304 := Tryz.func207.trans (congrArg some (by kernel_rfl))
  f305 := Tryz.func208.trans (congrArg some (by kernel_rfl))
  f306 := Tryz.func209.trans (congrArg some (by kernel_rfl))
  f307 := Tryz.func210.trans (congrArg some (by kernel_rfl))
  f308 := Tryz.func211.trans (congrArg some (by kernel_rfl))
  f309 := Tryz.func212.trans (congrArg some (by kernel_rfl))
  f310 := Tryz.func213.trans (congrArg some (by kernel_rfl))
  f329 := Tryz.func231.trans (congrArg some (by kernel_rfl))
  f330 := Tryz.func232.trans (congrArg some (by kernel_rfl))
  f333 := Tryz.func230.trans (congrArg some (by kernel_rfl))
  f334 := Tryz.func233.trans (congrArg some (by kernel_rfl))
  f335 := Tryz.func234.trans (congrArg some (by kernel_rfl))
  f336 := Tryz.func235.trans (congrArg some (by kernel_rfl))
  f344 := Tryz.func248.trans (congrArg some (by kernel_rfl))
  t0 := Tryz.underlying0
  a0 := Tryz.isAgg0
  z0 := Tryz.sizeOf0
  v0 := Tryz.zeroValue0
  t3 := Tryz.underlying3
  a3 := Tryz.isAgg3
  z3 := Tryz.sizeOf3
  v3 := Tryz.zeroValue3
  t4 := Tryz.underlying4
  a4 := Tryz.isAgg4
  z4 := Tryz.sizeOf4
  v4 := Tryz.zeroValue4
  t5 := Tryz.underlying5
  a5 := Tryz.isAgg5
  z5 := Tryz.sizeOf5
  v5 := Tryz.zeroValue5
  t9 := Tryz.underlying9
  a9 := Tryz.isAgg9
  z9 := Tryz.sizeOf9
  v9 := Tryz.zeroValue9
  t31 := Tryz.underlying24
  a31 := Tryz.isAgg24
  z31 := Tryz.sizeOf24
  v31 := Tryz.zeroValue24
  t46 := Tryz.underlying205
  a46 := Tryz.isAgg205
  z46 := Tryz.sizeOf205
  v46 := Tryz.zeroValue205
  t51 := Tryz.underlying232
  a51 := Tryz.isAgg232
  z51 := Tryz.sizeOf232
  v51 := Tryz.zeroValue232
  t53 := Tryz.underlying103
  a53 := Tryz.isAgg103
  z53 := Tryz.sizeOf103
  v53 := Tryz.zeroValue103
  t131 := Tryz.underlying99
  a131 := Tryz.isAgg99
  z131 := Tryz.sizeOf99
  v131 := Tryz.zeroValue99
  t182 := Tryz.underlying225
  a182 := Tryz.isAgg225
  z182 := Tryz.sizeOf225
  v182 := Tryz.zeroValue225
  t183 := Tryz.underlying226
  a183 := Tryz.isAgg226
  z183 := Tryz.sizeOf226
  v183 := Tryz.zeroValue226
  t218 := Tryz.underlying248
  a218 := Tryz.isAgg248
  z218 := Tryz.sizeOf248
  v218 := Tryz.zeroValue248
  t222 := Tryz.underlying252
  a222 := Tryz.isAgg252
  z222 := Tryz.sizeOf252
  v222 := Tryz.zeroValue252
  t228 := Tryz.underlying261
  a228 := Tryz.isAgg261
  z228 := Tryz.sizeOf261
  v228 := Tryz.zeroValue261
  t229 := Tryz.underlying262
  a229 := Tryz.isAgg262
  z229 := Tryz.sizeOf262
  v229 := Tryz.zeroValue262 }
end Go.Proofs
