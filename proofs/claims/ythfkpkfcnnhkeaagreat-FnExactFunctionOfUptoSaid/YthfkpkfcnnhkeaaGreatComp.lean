/-
  The instructions are the program's.
-/

import Derived.Test.YthfkpkfcnnhkeaaGreatCode
import Derived.Test.YthfkpkfcnnhkeaaGreatVxC
import Derived.Test.YthfkpkfcnnhkeaaGreatLay
import Derived.Test.YthfkpkfcnnhkeaaGreatProg
import Derived.KernelRfl
set_option linter.unusedVariables false
set_option linter.unusedSimpArgs false
namespace Go.Vx.FuZ
set_option maxRecDepth 100000
theorem k4 : compF Go.Proofs.Tryz.prog (mo.of mol) 4 = some v4.plain ∧ v4.body.clrOK v4.mus = true := ⟨by kernel_rfl, by kernel_rfl⟩
theorem k11 : compF Go.Proofs.Tryz.prog (mo.of mol) 11 = some v11.plain ∧ v11.body.clrOK v11.mus = true := ⟨by kernel_rfl, by kernel_rfl⟩
theorem k12 : compF Go.Proofs.Tryz.prog (mo.of mol) 12 = some v12.plain ∧ v12.body.clrOK v12.mus = true := ⟨by kernel_rfl, by kernel_rfl⟩
theorem k14 : compF Go.Proofs.Tryz.prog (mo.of mol) 14 = some v14.plain ∧ v14.body.clrOK v14.mus = true := ⟨by kernel_rfl, by kernel_rfl⟩
theorem k15 : compF Go.Proofs.Tryz.prog (mo.of mol) 15 = some v15.plain ∧ v15.body.clrOK v15.mus = true := ⟨by kernel_rfl, by kernel_rfl⟩
theorem k17 : compF Go.Proofs.Tryz.prog (mo.of mol) 17 = some v17.plain ∧ v17.body.clrOK v17.mus = true := ⟨by kernel_rfl, by kernel_rfl⟩
theorem k18 : compF Go.Proofs.Tryz.prog (mo.of mol) 18 = some v18.plain ∧ v18.body.clrOK v18.mus = true := ⟨by kernel_rfl, by kernel_rfl⟩
theorem k19 : compF Go.Proofs.Tryz.prog (mo.of mol) 19 = some v19.plain ∧ v19.body.clrOK v19.mus = true := ⟨by kernel_rfl, by kernel_rfl⟩
theorem k20 : compM Go.Proofs.Tryz.prog (mo.of mol) 20 = some [(0, .one, 22), (1, .one, 79), (2, .one, 80)] := by kernel_rfl
theorem k21 : compF Go.Proofs.Tryz.prog (mo.of mol) 21 = some v21.plain ∧ v21.body.clrOK v21.mus = true := ⟨by kernel_rfl, by kernel_rfl⟩
theorem k22 : compF Go.Proofs.Tryz.prog (mo.of mol) 22 = some v22.plain ∧ v22.body.clrOK v22.mus = true := ⟨by kernel_rfl, by kernel_rfl⟩
theorem k24 : compF Go.Proofs.Tryz.prog (mo.of mol) 24 = some v24.plain ∧ v24.body.clrOK v24.mus = true := ⟨by kernel_rfl, by kernel_rfl⟩
theorem k25 : compF Go.Proofs.Tryz.prog (mo.of mol) 25 = some v25.plain ∧ v25.body.clrOK v25.mus = true := ⟨by kernel_rfl, by kernel_rfl⟩
theorem k26 : compF Go.Proofs.Tryz.prog (mo.of mol) 26 = some v26.plain ∧ v26.body.clrOK v26.mus = true := ⟨by kernel_rfl, by kernel_rfl⟩
theorem k27 : compM Go.Proofs.Tryz.prog (mo.of mol) 27 = some [(1, .one, 21), (2, .one, 21)] := by kernel_rfl
theorem k28 : compF Go.Proofs.Tryz.prog (mo.of mol) 28 = some v28.plain ∧ v28.body.clrOK v28.mus = true := ⟨by kernel_rfl, by kernel_rfl⟩
theorem k41 : compF Go.Proofs.Tryz.prog (mo.of mol) 41 = some v41.plain ∧ v41.body.clrOK v41.mus = true := ⟨by kernel_rfl, by kernel_rfl⟩
theorem k44 : compF Go.Proofs.Tryz.prog (mo.of mol) 44 = some v44.plain ∧ v44.body.clrOK v44.mus = true := ⟨by kernel_rfl, by kernel_rfl⟩
theorem k46 : compF Go.Proofs.Tryz.prog (mo.of mol) 46 = some v46.plain ∧ v46.body.clrOK v46.mus = true := ⟨by kernel_rfl, by kernel_rfl⟩
theorem k48 : compF Go.Proofs.Tryz.prog (mo.of mol) 48 = some v48.plain ∧ v48.body.clrOK v48.mus = true := ⟨by kernel_rfl, by kernel_rfl⟩
theorem k50 : compF Go.Proofs.Tryz.prog (mo.of mol) 50 = some v50.plain ∧ v50.body.clrOK v50.mus = true := ⟨by kernel_rfl, by kernel_rfl⟩
theorem k64 : compF Go.Proofs.Tryz.prog (mo.of mol) 64 = some v64.plain ∧ v64.body.clrOK v64.mus = true := ⟨by kernel_rfl, by kernel_rfl⟩
theorem k66 : compF Go.Proofs.Tryz.prog (mo.of mol) 66 = some v66.plain ∧ v66.body.clrOK v66.mus = true := ⟨by kernel_rfl, by kernel_rfl⟩
theorem k67 : compF Go.Proofs.Tryz.prog (mo.of mol) 67 = some v67.plain ∧ v67.body.clrOK v67.mus = true := ⟨by kernel_rfl, by kernel_rfl⟩
theorem k68 : compF Go.Proofs.Tryz.prog (mo.of mol) 68 = some v68.plain ∧ v68.body.clrOK v68.mus = true := ⟨by kernel_rfl, by kernel_rfl⟩
theorem k70 : compF Go.Proofs.Tryz.prog (mo.of mol) 70 = some v70.plain ∧ v70.body.clrOK v70.mus = true := ⟨by kernel_rfl, by kernel_rfl⟩
theorem k71 : compF Go.Proofs.Tryz.prog (mo.of mol) 71 = some v71.plain ∧ v71.body.clrOK v71.mus = true := ⟨by kernel_rfl, by kernel_rfl⟩
theorem k72 : compF Go.Proofs.Tryz.prog (mo.of mol) 72 = some v72.plain ∧ v72.body.clrOK v72.mus = true := ⟨by kernel_rfl, by kernel_rfl⟩
theorem k73 : compF Go.Proofs.Tryz.prog (mo.of mol) 73 = some v73.plain ∧ v73.body.clrOK v73.mus = true := ⟨by kernel_rfl, by kernel_rfl⟩
theorem k74 : compF Go.Proofs.Tryz.prog (mo.of mol) 74 = some v74.plain ∧ v74.body.clrOK v74.mus = true := ⟨by kernel_rfl, by kernel_rfl⟩
theorem k76 : compF Go.Proofs.Tryz.prog (mo.of mol) 76 = some v76.plain ∧ v76.body.clrOK v76.mus = true := ⟨by kernel_rfl, by kernel_rfl⟩
theorem k77 : compF Go.Proofs.Tryz.prog (mo.of mol) 77 = some v77.plain ∧ v77.body.clrOK v77.mus = true := ⟨by kernel_rfl, by kernel_rfl⟩
theorem k78 : compF Go.Proofs.Tryz.prog (mo.of mol) 78 = some v78.plain ∧ v78.body.clrOK v78.mus = true := ⟨by kernel_rfl, by kernel_rfl⟩
theorem k79 : compF Go.Proofs.Tryz.prog (mo.of mol) 79 = some v79.plain ∧ v79.body.clrOK v79.mus = true := ⟨by kernel_rfl, by kernel_rfl⟩
theorem k80 : compF Go.Proofs.Tryz.prog (mo.of mol) 80 = some v80.plain ∧ v80.body.clrOK v80.mus = true := ⟨by kernel_rfl, by kernel_rfl⟩
theorem k81 : compF Go.Proofs.Tryz.prog (mo.of mol) 81 = some v81.plain ∧ v81.body.clrOK v81.mus = true := ⟨by kernel_rfl, by kernel_rfl⟩
theorem k82 : compF Go.Proofs.Tryz.prog (mo.of mol) 82 = some v82.plain ∧ v82.body.clrOK v82.mus = true := ⟨by kernel_rfl, by kernel_rfl⟩
theorem k83 : compF Go.Proofs.Tryz.prog (mo.of mol) 83 = some v83.plain ∧ v83.body.clrOK v83.mus = true := ⟨by kernel_rfl, by kernel_rfl⟩
theorem k84 : compF Go.Proofs.Tryz.prog (mo.of mol) 84 = some v84.plain ∧ v84.body.clrOK v84.mus = true := ⟨by kernel_rfl, by kernel_rfl⟩
theorem k85 : compF Go.Proofs.Tryz.prog (mo.of mol) 85 = some v85.plain ∧ v85.body.clrOK v85.mus = true := ⟨by kernel_rfl, by kernel_rfl⟩
theorem k86 : compF Go.Proofs.Tryz.prog (mo.of mol) 86 = some v86.plain ∧ v86.body.clrOK v86.mus = true := ⟨by kernel_rfl, by kernel_rfl⟩
theorem k97 : compF Go.Proofs.Tryz.prog (mo.of mol) 97 = some v97.plain ∧ v97.body.clrOK v97.mus = true := ⟨by kernel_rfl, by kernel_rfl⟩
theorem k102 : compF Go.Proofs.Tryz.prog (mo.of mol) 102 = some v102.plain ∧ v102.body.clrOK v102.mus = true := ⟨by kernel_rfl, by kernel_rfl⟩
theorem k103 : compF Go.Proofs.Tryz.prog (mo.of mol) 103 = some v103.plain ∧ v103.body.clrOK v103.mus = true := ⟨by kernel_rfl, by kernel_rfl⟩
theorem k108 : compF Go.Proofs.Tryz.prog (mo.of mol) 108 = some v108.plain ∧ v108.body.clrOK v108.mus = true := ⟨by kernel_rfl, by kernel_rfl⟩
theorem k110 : compF Go.Proofs.Tryz.prog (mo.of mol) 110 = some v110.plain ∧ v110.body.clrOK v110.mus = true := ⟨by kernel_rfl, by kernel_rfl⟩
theorem k112 : compF Go.Proofs.Tryz.prog (mo.of mol) 112 = some v112.plain ∧ v112.body.clrOK v112.mus = true := ⟨by kernel_rfl, by kernel_rfl⟩
theorem k113 : compF Go.Proofs.Tryz.prog (mo.of mol) 113 = some v113.plain ∧ v113.body.clrOK v113.mus = true := ⟨by kernel_rfl, by kernel_rfl⟩
theorem k134 : compF Go.Proofs.Tryz.prog (mo.of mol) 134 = some v134.plain ∧ v134.body.clrOK v134.mus = true := ⟨by kernel_rfl, by kernel_rfl⟩
theorem k135 : compF Go.Proofs.Tryz.prog (mo.of mol) 135 = some v135.plain ∧ v135.body.clrOK v135.mus = true := ⟨by kernel_rfl, by kernel_rfl⟩
theorem k136 : compF Go.Proofs.Tryz.prog (mo.of mol) 136 = some v136.plain ∧ v136.body.clrOK v136.mus = true := ⟨by kernel_rfl, by kernel_rfl⟩
theorem k139 : compF Go.Proofs.Tryz.prog (mo.of mol) 139 = some v139.plain ∧ v139.body.clrOK v139.mus = true := ⟨by kernel_rfl, by kernel_rfl⟩
theorem k140 : compF Go.Proofs.Tryz.prog (mo.of mol) 140 = some v140.plain ∧ v140.body.clrOK v140.mus = true := ⟨by kernel_rfl, by kernel_rfl⟩
theorem k141 : compF Go.Proofs.Tryz.prog (mo.of mol) 141 = some v141.plain ∧ v141.body.clrOK v141.mus = true := ⟨by kernel_rfl, by kernel_rfl⟩
theorem k142 : compF Go.Proofs.Tryz.prog (mo.of mol) 142 = some v142.plain ∧ v142.body.clrOK v142.mus = true := ⟨by kernel_rfl, by kernel_rfl⟩
theorem k143 : compF Go.Proofs.Tryz.prog (mo.of mol) 143 = some v143.plain ∧ v143.body.clrOK v143.mus = true := ⟨by kernel_rfl, by kernel_rfl⟩
theorem k144 : compF Go.Proofs.Tryz.prog (mo.of mol) 144 = some v144.plain ∧ v144.body.clrOK v144.mus = true := ⟨by kernel_rfl, by kernel_rfl⟩
theorem k145 : compF Go.Proofs.Tryz.prog (mo.of mol) 145 = some v145.plain ∧ v145.body.clrOK v145.mus = true := ⟨by kernel_rfl, by kernel_rfl⟩
theorem k146 : compF Go.Proofs.Tryz.prog (mo.of mol) 146 = some v146.plain ∧ v146.body.clrOK v146.mus = true := ⟨by kernel_rfl, by kernel_rfl⟩
theorem k147 : compF Go.Proofs.Tryz.prog (mo.of mol) 147 = some v147.plain ∧ v147.body.clrOK v147.mus = true := ⟨by kernel_rfl, by kernel_rfl⟩
theorem k148 : compF Go.Proofs.Tryz.prog (mo.of mol) 148 = some v148.plain ∧ v148.body.clrOK v148.mus = true := ⟨by kernel_rfl, by kernel_rfl⟩
theorem k149 : compF Go.Proofs.Tryz.prog (mo.of mol) 149 = some v149.plain ∧ v149.body.clrOK v149.mus = true := ⟨by kernel_rfl, by kernel_rfl⟩
theorem k150 : compF Go.Proofs.Tryz.prog (mo.of mol) 150 = some v150.plain ∧ v150.body.clrOK v150.mus = true := ⟨by kernel_rfl, by kernel_rfl⟩
theorem k151 : compF Go.Proofs.Tryz.prog (mo.of mol) 151 = some v151.plain ∧ v151.body.clrOK v151.mus = true := ⟨by kernel_rfl, by kernel_rfl⟩
theorem k152 : compF Go.Proofs.Tryz.prog (mo.of mol) 152 = some v152.plain ∧ v152.body.clrOK v152.mus = true := ⟨by kernel_rfl, by kernel_rfl⟩
theorem k153 : compF Go.Proofs.Tryz.prog (mo.of mol) 153 = some v153.plain ∧ v153.body.clrOK v153.mus = true := ⟨by kernel_rfl, by kernel_rfl⟩
theorem k154 : compF Go.Proofs.Tryz.prog (mo.of mol) 154 = some v154.plain ∧ v154.body.clrOK v154.mus = true := ⟨by kernel_rfl, by kernel_rfl⟩
theorem k155 : compF Go.Proofs.Tryz.prog (mo.of mol) 155 = some v155.plain ∧ v155.body.clrOK v155.mus = true := ⟨by kernel_rfl, by kernel_rfl⟩
theorem k156 : compF Go.Proofs.Tryz.prog (mo.of mol) 156 = some v156.plain ∧ v156.body.clrOK v156.mus = true := ⟨by kernel_rfl, by kernel_rfl⟩
theorem k157 : compF Go.Proofs.Tryz.prog (mo.of mol) 157 = some v157.plain ∧ v157.body.clrOK v157.mus = true := ⟨by kernel_rfl, by kernel_rfl⟩
theorem k158 : compF Go.Proofs.Tryz.prog (mo.of mol) 158 = some v158.plain ∧ v158.body.clrOK v158.mus = true := ⟨by kernel_rfl, by kernel_rfl⟩
theorem k159 : compF Go.Proofs.Tryz.prog (mo.of mol) 159 = some v159.plain ∧ v159.body.clrOK v159.mus = true := ⟨by kernel_rfl, by kernel_rfl⟩
theorem k160 : compF Go.Proofs.Tryz.prog (mo.of mol) 160 = some v160.plain ∧ v160.body.clrOK v160.mus = true := ⟨by kernel_rfl, by kernel_rfl⟩
theorem k161 : compF Go.Proofs.Tryz.prog (mo.of mol) 161 = some v161.plain ∧ v161.body.clrOK v161.mus = true := ⟨by kernel_rfl, by kernel_rfl⟩
theorem k162 : compF Go.Proofs.Tryz.prog (mo.of mol) 162 = some v162.plain ∧ v162.body.clrOK v162.mus = true := ⟨by kernel_rfl, by kernel_rfl⟩
theorem k170 : compF Go.Proofs.Tryz.prog (mo.of mol) 170 = some v170.plain ∧ v170.body.clrOK v170.mus = true := ⟨by kernel_rfl, by kernel_rfl⟩
theorem k176 : compF Go.Proofs.Tryz.prog (mo.of mol) 176 = some v176.plain ∧ v176.body.clrOK v176.mus = true := ⟨by kernel_rfl, by kernel_rfl⟩
theorem k177 : compF Go.Proofs.Tryz.prog (mo.of mol) 177 = some v177.plain ∧ v177.body.clrOK v177.mus = true := ⟨by kernel_rfl, by kernel_rfl⟩
theorem k178 : compF Go.Proofs.Tryz.prog (mo.of mol) 178 = some v178.plain ∧ v178.body.clrOK v178.mus = true := ⟨by kernel_rfl, by kernel_rfl⟩
theorem k179 : compF Go.Proofs.Tryz.prog (mo.of mol) 179 = some v179.plain ∧ v179.body.clrOK v179.mus = true := ⟨by kernel_rfl, by kernel_rfl⟩
theorem k181 : compF Go.Proofs.Tryz.prog (mo.of mol) 181 = some v181.plain ∧ v181.body.clrOK v181.mus = true := ⟨by kernel_rfl, by kernel_rfl⟩
theorem k204 : compF Go.Proofs.Tryz.prog (mo.of mol) 204 = some v204.plain ∧ v204.body.clrOK v204.mus = true := ⟨by kernel_rfl, by kernel_rfl⟩
theorem k205 : compF Go.Proofs.Tryz.prog (mo.of mol) 205 = some v205.plain ∧ v205.body.clrOK v205.mus = true := ⟨by kernel_rfl, by kernel_rfl⟩
theorem k206 : compF Go.Proofs.Tryz.prog (mo.of mol) 206 = some v206.plain ∧ v206.body.clrOK v206.mus = true := ⟨by kernel_rfl, by kernel_rfl⟩
theorem k207 : compF Go.Proofs.Tryz.prog (mo.of mol) 207 = some v207.plain ∧ v207.body.clrOK v207.mus = true := ⟨by kernel_rfl, by kernel_rfl⟩
theorem k208 : compF Go.Proofs.Tryz.prog (mo.of mol) 208 = some v208.plain ∧ v208.body.clrOK v208.mus = true := ⟨by kernel_rfl, by kernel_rfl⟩
theorem k209 : compF Go.Proofs.Tryz.prog (mo.of mol) 209 = some v209.plain ∧ v209.body.clrOK v209.mus = true := ⟨by kernel_rfl, by kernel_rfl⟩
theorem k210 : compF Go.Proofs.Tryz.prog (mo.of mol) 210 = some v210.plain ∧ v210.body.clrOK v210.mus = true := ⟨by kernel_rfl, by kernel_rfl⟩
theorem k211 : compF Go.Proofs.Tryz.prog (mo.of mol) 211 = some v211.plain ∧ v211.body.clrOK v211.mus = true := ⟨by kernel_rfl, by kernel_rfl⟩
theorem k242 : compF Go.Proofs.Tryz.prog (mo.of mol) 242 = some v242.plain ∧ v242.body.clrOK v242.mus = true := ⟨by kernel_rfl, by kernel_rfl⟩
theorem k243 : compF Go.Proofs.Tryz.prog (mo.of mol) 243 = some v243.plain ∧ v243.body.clrOK v243.mus = true := ⟨by kernel_rfl, by kernel_rfl⟩
theorem k244 : compF Go.Proofs.Tryz.prog (mo.of mol) 244 = some v244.plain ∧ v244.body.clrOK v244.mus = true := ⟨by kernel_rfl, by kernel_rfl⟩
theorem allF : AllP (fun f fv => compF Go.Proofs.Tryz.prog (mo.of mol) f = some fv.plain ∧ fv.body.clrOK fv.mus = true) fns := ⟨k4, k11, k12, k14, k15, k17, k18, k19, k21, k22, k24, k25, k26, k28, k41, k44, k46, k48, k50, k64, k66, k67, k68, k70, k71, k72, k73, k74, k76, k77, k78, k79, k80, k81, k82, k83, k84, k85, k86, k97, k102, k103, k108, k110, k112, k113, k134, k135, k136, k139, k140, k141, k142, k143, k144, k145, k146, k147, k148, k149, k150, k151, k152, k153, k154, k155, k156, k157, k158, k159, k160, k161, k162, k170, k176, k177, k178, k179, k181, k204, k205, k206, k207, k208, k209, k210, k211, k242, k243, k244, trivial⟩
theorem allM : AllP (fun f ms => compM Go.Proofs.Tryz.prog (mo.of mol) f = some ms) mrks := ⟨k20, k27, trivial⟩
theorem allP : AllP (fun f g => bodied Go.Proofs.Tryz.prog f = true ∧ ∀ args d, g args = some d → ∀ sto, CallsOK Go.Proofs.Tryz.prog (mo.of mol f) f args sto (d.1, d.2, sto)) prs := ⟨⟨by kernel_rfl, fun _ _ h sto => sort_ok lays190 h sto⟩, ⟨by kernel_rfl, fun _ _ h sto => compact_ok lays194 h sto⟩, trivial⟩
theorem hok (hm : Go.Proofs.Tryz.prog.follows .mixedOrders = true) : HOK Go.Proofs.Tryz.prog (mo.of mol) (vcall T) := vcall_ok (drawOK hm) (fun f ms h => allM.look h) (fun f fv h => allF.look h) (fun f g h => allP.look h)
end Go.Vx.FuZ
