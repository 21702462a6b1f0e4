/-
  The library's functions, as the shelf has proved them, in this program.
-/
import Derived.Test.YtnaaflejkfaiaaaGreatVxE
import Derived.Test.YtnaaflejkfaiaaaGreatProg
set_option linter.unusedVariables false
set_option linter.unusedSimpArgs false
namespace Go.Vx.NmZ
open Go.Proofs Go.Shelf
def zBW : Go.Shelf.Ren := ⟨fun | 190 => 258 | 125 => 270 | 258 => 269 | 128 => 280 | 129 => 281 | 302 => 271 | 303 => 272 | 304 => 273 | 305 => 274 | 306 => 275 | 307 => 276 | 308 => 277 | 309 => 278 | 310 => 279 | 333 => 282 | 329 => 283 | 330 => 284 | 334 => 285 | 335 => 286 | 336 => 287 | 344 => 288 | n => n, fun | 31 => 22 | 9 => 9 | 3 => 3 | 46 => 286 | 0 => 0 | 51 => 299 | 53 => 301 | 4 => 4 | 183 => 293 | 182 => 292 | 131 => 263 | 5 => 5 | 218 => 302 | 222 => 306 | 228 => 308 | 229 => 309 | n => n, fun | n => n⟩
theorem zAq : Go.Proofs.Lays.n190 Tryz.prog zBW := {
 mixed := by kernel_rfl
 f125 := Tryz.func270.trans (congrArg some (by kernel_rfl))
 f128 := Tryz.func280.trans (congrArg some (by kernel_rfl))
 f129 := Tryz.func281.trans (congrArg some (by kernel_rfl))
 f190 := Tryz.func258.trans (congrArg some (by kernel_rfl))
 f258 := Tryz.func269.trans (congrArg some (by kernel_rfl))
 f302 := Tryz.func271.trans (congrArg some (by kernel_rfl))
 f303 := Tryz.func272.trans (congrArg some (by kernel_rfl))
 f304 := Tryz.func273.trans (congrArg some (by kernel_rfl))
 f305 := Tryz.func274.trans (congrArg some (by kernel_rfl))
 f306 := Tryz.func275.trans (congrArg some (by kernel_rfl))
 f307 := Tryz.func276.trans (congrArg some (by kernel_rfl))
 f308 := Tryz.func277.trans (congrArg some (by kernel_rfl))
 f309 := Tryz.func278.trans (congrArg some (by kernel_rfl))
 f310 := Tryz.func279.trans (congrArg some (by kernel_rfl))
 f329 := Tryz.func283.trans (congrArg some (by kernel_rfl))
 f330 := Tryz.func284.trans (congrArg some (by kernel_rfl))
 f333 := Tryz.func282.trans (congrArg some (by kernel_rfl))
 f334 := Tryz.func285.trans (congrArg some (by kernel_rfl))
 f335 := Tryz.func286.trans (congrArg some (by kernel_rfl))
 f336 := Tryz.func287.trans (congrArg some (by kernel_rfl))
 f344 := Tryz.func288.trans (congrArg some (by kernel_rfl))
 t0 := Tryz.underlying0
 a0 := Tryz.isAgg0
 z0 := Tryz.sizeOf0
 v0 := Tryz.zeroValue0
 t3 := Tryz.underlying3
 a3 := Tryz.isAgg3
 z3 := Tryz.sizeOf3
 v3 := Tryz.zeroValue3
 t4 := Tryz.underlying4
 a4 := Tryz.isAgg4
 z4 := Tryz.sizeOf4
 v4 := Tryz.zeroValue4
 t5 := Tryz.underlying5
 a5 := Tryz.isAgg5
 z5 := Tryz.sizeOf5
 v5 := Tryz.zeroValue5
 t9 := Tryz.underlying9
 a9 := Tryz.isAgg9
 z9 := Tryz.sizeOf9
 v9 := Tryz.zeroValue9
 t31 := Tryz.underlying22
 a31 := Tryz.isAgg22
 z31 := Tryz.sizeOf22
 v31 := Tryz.zeroValue22
 t46 := Tryz.underlying286
 a46 := Tryz.isAgg286
 z46 := Tryz.sizeOf286
 v46 := Tryz.zeroValue286
 t51 := Tryz.underlying299
 a51 := Tryz.isAgg299
 z51 := Tryz.sizeOf299
 v51 := Tryz.zeroValue299
 t53 := Tryz.underlying301
 a53 := Tryz.isAgg301
 z53 := Tryz.sizeOf301
 v53 := Tryz.zeroValue301
 t131 := Tryz.underlying263
 a131 := Tryz.isAgg263
 z131 := Tryz.sizeOf263
 v131 := Tryz.zeroValue263
 t182 := Tryz.underlying292
 a182 := Tryz.isAgg292
 z182 := Tryz.sizeOf292
 v182 := Tryz.zeroValue292
 t183 := Tryz.underlying293
 a183 := Tryz.isAgg293
 z183 := Tryz.sizeOf293
 v183 := Tryz.zeroValue293
 t218 := Tryz.underlying302
 a218 := Tryz.isAgg302
 z218 := Tryz.sizeOf302
 v218 := Tryz.zeroValue302
 t222 := Tryz.underlying306
 a222 := Tryz.isAgg306
 z222 := Tryz.sizeOf306
 v222 := Tryz.zeroValue306
 t228 := Tryz.underlying308
 a228 := Tryz.isAgg308
 z228 := Tryz.sizeOf308
 v228 := Tryz.zeroValue308
 t229 := Tryz.underlying309
 a229 := Tryz.isAgg309
 z229 := Tryz.sizeOf309
 v229 := Tryz.zeroValue309 }
def zBX : Go.Shelf.Ren := ⟨fun | 194 => 259 | n => n, fun | 31 => 22 | 9 => 9 | 3 => 3 | 4 => 4 | 0 => 0 | n => n, fun | n => n⟩
theorem zAr : Go.Proofs.Lays.n194 Tryz.prog zBX := {
 mixed := by kernel_rfl
 f194 := Tryz.func259.trans (congrArg some (by kernel_rfl))
 t0 := Tryz.underlying0
 a0 := Tryz.isAgg0
 z0 := Tryz.sizeOf0
 v0 := Tryz.zeroValue0
 t3 := Tryz.underlying3
 a3 := Tryz.isAgg3
 z3 := Tryz.sizeOf3
 v3 := Tryz.zeroValue3
 t4 := Tryz.underlying4
 a4 := Tryz.isAgg4
 z4 := Tryz.sizeOf4
 v4 := Tryz.zeroValue4
 t9 := Tryz.underlying9
 a9 := Tryz.isAgg9
 z9 := Tryz.sizeOf9
 v9 := Tryz.zeroValue9
 t31 := Tryz.underlying22
 a31 := Tryz.isAgg22
 z31 := Tryz.sizeOf22
 v31 := Tryz.zeroValue22 }
end Go.Vx.NmZ
