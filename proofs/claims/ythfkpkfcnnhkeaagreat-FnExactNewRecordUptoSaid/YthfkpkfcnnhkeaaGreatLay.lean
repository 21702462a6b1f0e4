/-
 The library's functions, as the shelf has proved them, in this program.
-/
import Derived.Test.YthfkpkfcnnhkeaaGreatVxE
import Derived.Test.YthfkpkfcnnhkeaaGreatProg
set_option linter.unusedVariables false
set_option linter.unusedSimpArgs false
namespace Go.Vx.NrZ
open Go.Proofs Go.Shelf
def ren190 : Go.Shelf.Ren := ⟨fun | 190 => 219 | 125 => 250 | 258 => 249 | 128 => 275 | 129 => 276 | 302 => 266 | 303 => 267 | 304 => 268 | 305 => 269 | 306 => 270 | 307 => 271 | 308 => 272 | 309 => 273 | 310 => 274 | 333 => 287 | 329 => 288 | 330 => 289 | 334 => 290 | 335 => 291 | 336 => 244 | 344 => 296 | n => n, fun | 31 => 27 | 9 => 9 | 3 => 3 | 46 => 288 | 0 => 0 | 51 => 312 | 53 => 245 | 4 => 4 | 183 => 305 | 182 => 304 | 131 => 210 | 5 => 5 | 218 => 319 | 222 => 323 | 228 => 328 | 229 => 329 | n => n, fun | n => n⟩
theorem lays190 : Go.Proofs.Lays.n190 Tryz.prog ren190 := {
 mixed := by kernel_rfl
 f125 := Tryz.func250.trans (congrArg some (by kernel_rfl))
 f128 := Tryz.func275.trans (congrArg some (by kernel_rfl))
 f129 := Tryz.func276.trans (congrArg some (by kernel_rfl))
 f190 := Tryz.func219.trans (congrArg some (by kernel_rfl))
 f258 := Tryz.func249.trans (congrArg some (by kernel_rfl))
 f302 := Tryz.func266.trans (congrArg some (by kernel_rfl))
 f303 := Tryz.func267.trans (congrArg some (by kernel_rfl))
 f304 := Tryz.func268.trans (congrArg some (by kernel_rfl))
 f305 := Tryz.func269.trans (congrArg some (by kernel_rfl))
 f306 := Tryz.func270.trans (congrArg some (by kernel_rfl))
 f307 := Tryz.func271.trans (congrArg some (by kernel_rfl))
 f308 := Tryz.func272.trans (congrArg some (by kernel_rfl))
 f309 := Tryz.func273.trans (congrArg some (by kernel_rfl))
 f310 := Tryz.func274.trans (congrArg some (by kernel_rfl))
 f329 := Tryz.func288.trans (congrArg some (by kernel_rfl))
 f330 := Tryz.func289.trans (congrArg some (by kernel_rfl))
 f333 := Tryz.func287.trans (congrArg some (by kernel_rfl))
 f334 := Tryz.func290.trans (congrArg some (by kernel_rfl))
 f335 := Tryz.func291.trans (congrArg some (by kernel_rfl))
 f336 := Tryz.func244.trans (congrArg some (by kernel_rfl))
 f344 := Tryz.func296.trans (congrArg some (by kernel_rfl))
 t0 := Tryz.underlying0
 a0 := Tryz.isAgg0
 z0 := Tryz.sizeOf0
 v0 := Tryz.zeroValue0
 t3 := Tryz.underlying3
 a3 := Tryz.isAgg3
 z3 := Tryz.sizeOf3
 v3 := Tryz.zeroValue3
 t4 := Tryz.underlying4
 a4 := Tryz.isAgg4
 z4 := Tryz.sizeOf4
 v4 := Tryz.zeroValue4
 t5 := Tryz.underlying5
 a5 := Tryz.isAgg5
 z5 := Tryz.sizeOf5
 v5 := Tryz.zeroValue5
 t9 := Tryz.underlying9
 a9 := Tryz.isAgg9
 z9 := Tryz.sizeOf9
 v9 := Tryz.zeroValue9
 t31 := Tryz.underlying27
 a31 := Tryz.isAgg27
 z31 := Tryz.sizeOf27
 v31 := Tryz.zeroValue27
 t46 := Tryz.underlying288
 a46 := Tryz.isAgg288
 z46 := Tryz.sizeOf288
 v46 := Tryz.zeroValue288
 t51 := Tryz.underlying312
 a51 := Tryz.isAgg312
 z51 := Tryz.sizeOf312
 v51 := Tryz.zeroValue312
 t53 := Tryz.underlying245
 a53 := Tryz.isAgg245
 z53 := Tryz.sizeOf245
 v53 := Tryz.zeroValue245
 t131 := Tryz.underlying210
 a131 := Tryz.isAgg210
 z131 := Tryz.sizeOf210
 v131 := Tryz.zeroValue210
 t182 := Tryz.underlying304
 a182 := Tryz.isAgg304
 z182 := Tryz.sizeOf304
 v182 := Tryz.zeroValue304
 t183 := Tryz.underlying305
 a183 := Tryz.isAgg305
 z183 := Tryz.sizeOf305
 v183 := Tryz.zeroValue305
 t218 := Tryz.underlying319
 a218 := Tryz.isAgg319
 z218 := Tryz.sizeOf319
 v218 := Tryz.zeroValue319
 t222 := Tryz.underlying323
 a222 := Tryz.isAgg323
 z222 := Tryz.sizeOf323
 v222 := Tryz.zeroValue323
 t228 := Tryz.underlying328
 a228 := Tryz.isAgg328
 z228 := Tryz.sizeOf328
 v228 := Tryz.zeroValue328
 t229 := Tryz.underlying329
 a229 := Tryz.isAgg329
 z229 := Tryz.sizeOf329
 v229 := Tryz.zeroValue329 }
def ren194 : Go.Shelf.Ren := ⟨fun | 194 => 220 | n => n, fun | 31 => 27 | 9 => 9 | 3 => 3 | 4 => 4 | 0 => 0 | n => n, fun | n => n⟩
theorem lays194 : Go.Proofs.Lays.n194 Tryz.prog ren194 := {
 mixed := by kernel_rfl
 f194 := Tryz.func220.trans (congrArg some (by kernel_rfl))
 t0 := Tryz.underlying0
 a0 := Tryz.isAgg0
 z0 := Tryz.sizeOf0
 v0 := Tryz.zeroValue0
 t3 := Tryz.underlying3
 a3 := Tryz.isAgg3
 z3 := Tryz.sizeOf3
 v3 := Tryz.zeroValue3
 t4 := Tryz.underlying4
 a4 := Tryz.isAgg4
 z4 := Tryz.sizeOf4
 v4 := Tryz.zeroValue4
 t9 := Tryz.underlying9
 a9 := Tryz.isAgg9
 z9 := Tryz.sizeOf9
 v9 := Tryz.zeroValue9
 t31 := Tryz.underlying27
 a31 := Tryz.isAgg27
 z31 := Tryz.sizeOf27
 v31 := Tryz.zeroValue27 }
end Go.Vx.NrZ
