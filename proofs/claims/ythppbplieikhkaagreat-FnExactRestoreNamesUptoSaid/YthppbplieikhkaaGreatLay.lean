/-
  The library's functions, as the shelf has proved them, in this program.
-/
import Derived.Test.YthppbplieikhkaaGreatVxE
import Derived.Test.YthppbplieikhkaaGreatProg
set_option linter.unusedVariables false
set_option linter.unusedSimpArgs false
namespace Go.Vx.RnZ
open Go.Proofs Go.Shelf
def zxz : Go.Shelf.Ren := ⟨fun | 190 => 137 | 125 => 146 | 258 => 145 | 128 => 160 | 129 => 161 | 302 => 151 | 303 => 152 | 304 => 153 | 305 => 154 | 306 => 155 | 307 => 156 | 308 => 157 | 309 => 158 | 310 => 159 | 333 => 163 | 329 => 164 | 330 => 165 | 334 => 166 | 335 => 167 | 336 => 139 | 344 => 168 | n => n, fun | 31 => 60 | 9 => 9 | 3 => 3 | 46 => 165 | 0 => 0 | 51 => 182 | 53 => 133 | 4 => 4 | 183 => 175 | 182 => 174 | 131 => 123 | 5 => 5 | 218 => 185 | 222 => 189 | 228 => 191 | 229 => 192 | n => n, fun | n => n⟩
theorem zvc : Go.Proofs.Lays.n190 Tryz.prog zxz := {
 mixed := by kernel_rfl
 f125 := Tryz.func146.trans (congrArg some (by kernel_rfl))
 f128 := Tryz.func160.trans (congrArg some (by kernel_rfl))
 f129 := Tryz.func161.trans (congrArg some (by kernel_rfl))
 f190 := Tryz.func137.trans (congrArg some (by kernel_rfl))
 f258 := Tryz.func145.trans (congrArg some (by kernel_rfl))
 f302 := Tryz.func151.trans (congrArg some (by kernel_rfl))
 f303 := Tryz.func152.trans (congrArg some (by kernel_rfl))
 f304 := Tryz.func153.trans (congrArg some (by kernel_rfl))
 f305 := Tryz.func154.trans (congrArg some (by kernel_rfl))
 f306 := Tryz.func155.trans (congrArg some (by kernel_rfl))
 f307 := Tryz.func156.trans (congrArg some (by kernel_rfl))
 f308 := Tryz.func157.trans (congrArg some (by kernel_rfl))
 f309 := Tryz.func158.trans (congrArg some (by kernel_rfl))
 f310 := Tryz.func159.trans (congrArg some (by kernel_rfl))
 f329 := Tryz.func164.trans (congrArg some (by kernel_rfl))
 f330 := Tryz.func165.trans (congrArg some (by kernel_rfl))
 f333 := Tryz.func163.trans (congrArg some (by kernel_rfl))
 f334 := Tryz.func166.trans (congrArg some (by kernel_rfl))
 f335 := Tryz.func167.trans (congrArg some (by kernel_rfl))
 f336 := Tryz.func139.trans (congrArg some (by kernel_rfl))
 f344 := Tryz.func168.trans (congrArg some (by kernel_rfl))
 t0 := Tryz.underlying0
 a0 := Tryz.isAgg0
 z0 := Tryz.sizeOf0
 v0 := Tryz.zeroValue0
 t3 := Tryz.underlying3
 a3 := Tryz.isAgg3
 z3 := Tryz.sizeOf3
 v3 := Tryz.zeroValue3
 t4 := Tryz.underlying4
 a4 := Tryz.isAgg4
 z4 := Tryz.sizeOf4
 v4 := Tryz.zeroValue4
 t5 := Tryz.underlying5
 a5 := Tryz.isAgg5
 z5 := Tryz.sizeOf5
 v5 := Tryz.zeroValue5
 t9 := Tryz.underlying9
 a9 := Tryz.isAgg9
 z9 := Tryz.sizeOf9
 v9 := Tryz.zeroValue9
 t31 := Tryz.underlying60
 a31 := Tryz.isAgg60
 z31 := Tryz.sizeOf60
 v31 := Tryz.zeroValue60
 t46 := Tryz.underlying165
 a46 := Tryz.isAgg165
 z46 := Tryz.sizeOf165
 v46 := Tryz.zeroValue165
 t51 := Tryz.underlying182
 a51 := Tryz.isAgg182
 z51 := Tryz.sizeOf182
 v51 := Tryz.zeroValue182
 t53 := Tryz.underlying133
 a53 := Tryz.isAgg133
 z53 := Tryz.sizeOf133
 v53 := Tryz.zeroValue133
 t131 := Tryz.underlying123
 a131 := Tryz.isAgg123
 z131 := Tryz.sizeOf123
 v131 := Tryz.zeroValue123
 t182 := Tryz.underlying174
 a182 := Tryz.isAgg174
 z182 := Tryz.sizeOf174
 v182 := Tryz.zeroValue174
 t183 := Tryz.underlying175
 a183 := Tryz.isAgg175
 z183 := Tryz.sizeOf175
 v183 := Tryz.zeroValue175
 t218 := Tryz.underlying185
 a218 := Tryz.isAgg185
 z218 := Tryz.sizeOf185
 v218 := Tryz.zeroValue185
 t222 := Tryz.underlying189
 a222 := Tryz.isAgg189
 z222 := Tryz.sizeOf189
 v222 := Tryz.zeroValue189
 t228 := Tryz.underlying191
 a228 := Tryz.isAgg191
 z228 := Tryz.sizeOf191
 v228 := Tryz.zeroValue191
 t229 := Tryz.underlying192
 a229 := Tryz.isAgg192
 z229 := Tryz.sizeOf192
 v229 := Tryz.zeroValue192 }
def zxA : Go.Shelf.Ren := ⟨fun | 194 => 138 | n => n, fun | 31 => 60 | 9 => 9 | 3 => 3 | 4 => 4 | 0 => 0 | n => n, fun | n => n⟩
theorem zvd : Go.Proofs.Lays.n194 Tryz.prog zxA := {
 mixed := by kernel_rfl
 f194 := Tryz.func138.trans (congrArg some (by kernel_rfl))
 t0 := Tryz.underlying0
 a0 := Tryz.isAgg0
 z0 := Tryz.sizeOf0
 v0 := Tryz.zeroValue0
 t3 := Tryz.underlying3
 a3 := Tryz.isAgg3
 z3 := Tryz.sizeOf3
 v3 := Tryz.zeroValue3
 t4 := Tryz.underlying4
 a4 := Tryz.isAgg4
 z4 := Tryz.sizeOf4
 v4 := Tryz.zeroValue4
 t9 := Tryz.underlying9
 a9 := Tryz.isAgg9
 z9 := Tryz.sizeOf9
 v9 := Tryz.zeroValue9
 t31 := Tryz.underlying60
 a31 := Tryz.isAgg60
 z31 := Tryz.sizeOf60
 v31 := Tryz.zeroValue60 }
end Go.Vx.RnZ
