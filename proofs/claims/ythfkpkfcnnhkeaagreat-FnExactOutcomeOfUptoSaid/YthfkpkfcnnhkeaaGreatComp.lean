/-
  The instructions are the program's.
-/

import Derived.Test.YthfkpkfcnnhkeaaGreatCode
import Derived.Test.YthfkpkfcnnhkeaaGreatVxC
import Derived.Test.YthfkpkfcnnhkeaaGreatProg
import Derived.KernelRfl
set_option linter.unusedVariables false
set_option linter.unusedSimpArgs false
namespace Go.Vx.OcZ
set_option maxRecDepth 100000
theorem k9 : compF Go.Proofs.Tryz.prog (mo.of mol) 9 = some v9.plain ∧ v9.body.clrOK v9.mus = true := ⟨by kernel_rfl, by kernel_rfl⟩
theorem k11 : compF Go.Proofs.Tryz.prog (mo.of mol) 11 = some v11.plain ∧ v11.body.clrOK v11.mus = true := ⟨by kernel_rfl, by kernel_rfl⟩
theorem k12 : compF Go.Proofs.Tryz.prog (mo.of mol) 12 = some v12.plain ∧ v12.body.clrOK v12.mus = true := ⟨by kernel_rfl, by kernel_rfl⟩
theorem k14 : compF Go.Proofs.Tryz.prog (mo.of mol) 14 = some v14.plain ∧ v14.body.clrOK v14.mus = true := ⟨by kernel_rfl, by kernel_rfl⟩
theorem k15 : compF Go.Proofs.Tryz.prog (mo.of mol) 15 = some v15.plain ∧ v15.body.clrOK v15.mus = true := ⟨by kernel_rfl, by kernel_rfl⟩
theorem k17 : compF Go.Proofs.Tryz.prog (mo.of mol) 17 = some v17.plain ∧ v17.body.clrOK v17.mus = true := ⟨by kernel_rfl, by kernel_rfl⟩
theorem k18 : compF Go.Proofs.Tryz.prog (mo.of mol) 18 = some v18.plain ∧ v18.body.clrOK v18.mus = true := ⟨by kernel_rfl, by kernel_rfl⟩
theorem k19 : compF Go.Proofs.Tryz.prog (mo.of mol) 19 = some v19.plain ∧ v19.body.clrOK v19.mus = true := ⟨by kernel_rfl, by kernel_rfl⟩
theorem k20 : compM Go.Proofs.Tryz.prog (mo.of mol) 20 = some [(0, .one, 22), (1, .one, 79), (2, .one, 80)] := by kernel_rfl
theorem k21 : compF Go.Proofs.Tryz.prog (mo.of mol) 21 = some v21.plain ∧ v21.body.clrOK v21.mus = true := ⟨by kernel_rfl, by kernel_rfl⟩
theorem k22 : compF Go.Proofs.Tryz.prog (mo.of mol) 22 = some v22.plain ∧ v22.body.clrOK v22.mus = true := ⟨by kernel_rfl, by kernel_rfl⟩
theorem k23 : compF Go.Proofs.Tryz.prog (mo.of mol) 23 = some v23.plain ∧ v23.body.clrOK v23.mus = true := ⟨by kernel_rfl, by kernel_rfl⟩
theorem k26 : compF Go.Proofs.Tryz.prog (mo.of mol) 26 = some v26.plain ∧ v26.body.clrOK v26.mus = true := ⟨by kernel_rfl, by kernel_rfl⟩
theorem k29 : compF Go.Proofs.Tryz.prog (mo.of mol) 29 = some v29.plain ∧ v29.body.clrOK v29.mus = true := ⟨by kernel_rfl, by kernel_rfl⟩
theorem k31 : compF Go.Proofs.Tryz.prog (mo.of mol) 31 = some v31.plain ∧ v31.body.clrOK v31.mus = true := ⟨by kernel_rfl, by kernel_rfl⟩
theorem k33 : compF Go.Proofs.Tryz.prog (mo.of mol) 33 = some v33.plain ∧ v33.body.clrOK v33.mus = true := ⟨by kernel_rfl, by kernel_rfl⟩
theorem k34 : compF Go.Proofs.Tryz.prog (mo.of mol) 34 = some v34.plain ∧ v34.body.clrOK v34.mus = true := ⟨by kernel_rfl, by kernel_rfl⟩
theorem k35 : compF Go.Proofs.Tryz.prog (mo.of mol) 35 = some v35.plain ∧ v35.body.clrOK v35.mus = true := ⟨by kernel_rfl, by kernel_rfl⟩
theorem k36 : compF Go.Proofs.Tryz.prog (mo.of mol) 36 = some v36.plain ∧ v36.body.clrOK v36.mus = true := ⟨by kernel_rfl, by kernel_rfl⟩
theorem k38 : compF Go.Proofs.Tryz.prog (mo.of mol) 38 = some v38.plain ∧ v38.body.clrOK v38.mus = true := ⟨by kernel_rfl, by kernel_rfl⟩
theorem k40 : compF Go.Proofs.Tryz.prog (mo.of mol) 40 = some v40.plain ∧ v40.body.clrOK v40.mus = true := ⟨by kernel_rfl, by kernel_rfl⟩
theorem k41 : compF Go.Proofs.Tryz.prog (mo.of mol) 41 = some v41.plain ∧ v41.body.clrOK v41.mus = true := ⟨by kernel_rfl, by kernel_rfl⟩
theorem k42 : compM Go.Proofs.Tryz.prog (mo.of mol) 42 = some [(1, .one, 106)] := by kernel_rfl
theorem k43 : compF Go.Proofs.Tryz.prog (mo.of mol) 43 = some v43.plain ∧ v43.body.clrOK v43.mus = true := ⟨by kernel_rfl, by kernel_rfl⟩
theorem k44 : compF Go.Proofs.Tryz.prog (mo.of mol) 44 = some v44.plain ∧ v44.body.clrOK v44.mus = true := ⟨by kernel_rfl, by kernel_rfl⟩
theorem k46 : compF Go.Proofs.Tryz.prog (mo.of mol) 46 = some v46.plain ∧ v46.body.clrOK v46.mus = true := ⟨by kernel_rfl, by kernel_rfl⟩
theorem k48 : compF Go.Proofs.Tryz.prog (mo.of mol) 48 = some v48.plain ∧ v48.body.clrOK v48.mus = true := ⟨by kernel_rfl, by kernel_rfl⟩
theorem k50 : compF Go.Proofs.Tryz.prog (mo.of mol) 50 = some v50.plain ∧ v50.body.clrOK v50.mus = true := ⟨by kernel_rfl, by kernel_rfl⟩
theorem k52 : compF Go.Proofs.Tryz.prog (mo.of mol) 52 = some v52.plain ∧ v52.body.clrOK v52.mus = true := ⟨by kernel_rfl, by kernel_rfl⟩
theorem k53 : compF Go.Proofs.Tryz.prog (mo.of mol) 53 = some v53.plain ∧ v53.body.clrOK v53.mus = true := ⟨by kernel_rfl, by kernel_rfl⟩
theorem k54 : compF Go.Proofs.Tryz.prog (mo.of mol) 54 = some v54.plain ∧ v54.body.clrOK v54.mus = true := ⟨by kernel_rfl, by kernel_rfl⟩
theorem k55 : compF Go.Proofs.Tryz.prog (mo.of mol) 55 = some v55.plain ∧ v55.body.clrOK v55.mus = true := ⟨by kernel_rfl, by kernel_rfl⟩
theorem k56 : compF Go.Proofs.Tryz.prog (mo.of mol) 56 = some v56.plain ∧ v56.body.clrOK v56.mus = true := ⟨by kernel_rfl, by kernel_rfl⟩
theorem k57 : compF Go.Proofs.Tryz.prog (mo.of mol) 57 = some v57.plain ∧ v57.body.clrOK v57.mus = true := ⟨by kernel_rfl, by kernel_rfl⟩
theorem k58 : compM Go.Proofs.Tryz.prog (mo.of mol) 58 = some [(2, (.many 10), 124), (12, .one, 34), (13, .one, 125)] := by kernel_rfl
theorem k59 : compM Go.Proofs.Tryz.prog (mo.of mol) 59 = some [(0, (.many 10), 124)] := by kernel_rfl
theorem k60 : compF Go.Proofs.Tryz.prog (mo.of mol) 60 = some v60.plain ∧ v60.body.clrOK v60.mus = true := ⟨by kernel_rfl, by kernel_rfl⟩
theorem k66 : compF Go.Proofs.Tryz.prog (mo.of mol) 66 = some v66.plain ∧ v66.body.clrOK v66.mus = true := ⟨by kernel_rfl, by kernel_rfl⟩
theorem k67 : compF Go.Proofs.Tryz.prog (mo.of mol) 67 = some v67.plain ∧ v67.body.clrOK v67.mus = true := ⟨by kernel_rfl, by kernel_rfl⟩
theorem k70 : compF Go.Proofs.Tryz.prog (mo.of mol) 70 = some v70.plain ∧ v70.body.clrOK v70.mus = true := ⟨by kernel_rfl, by kernel_rfl⟩
theorem k71 : compF Go.Proofs.Tryz.prog (mo.of mol) 71 = some v71.plain ∧ v71.body.clrOK v71.mus = true := ⟨by kernel_rfl, by kernel_rfl⟩
theorem k76 : compF Go.Proofs.Tryz.prog (mo.of mol) 76 = some v76.plain ∧ v76.body.clrOK v76.mus = true := ⟨by kernel_rfl, by kernel_rfl⟩
theorem k77 : compF Go.Proofs.Tryz.prog (mo.of mol) 77 = some v77.plain ∧ v77.body.clrOK v77.mus = true := ⟨by kernel_rfl, by kernel_rfl⟩
theorem k78 : compF Go.Proofs.Tryz.prog (mo.of mol) 78 = some v78.plain ∧ v78.body.clrOK v78.mus = true := ⟨by kernel_rfl, by kernel_rfl⟩
theorem k79 : compF Go.Proofs.Tryz.prog (mo.of mol) 79 = some v79.plain ∧ v79.body.clrOK v79.mus = true := ⟨by kernel_rfl, by kernel_rfl⟩
theorem k80 : compF Go.Proofs.Tryz.prog (mo.of mol) 80 = some v80.plain ∧ v80.body.clrOK v80.mus = true := ⟨by kernel_rfl, by kernel_rfl⟩
theorem k81 : compF Go.Proofs.Tryz.prog (mo.of mol) 81 = some v81.plain ∧ v81.body.clrOK v81.mus = true := ⟨by kernel_rfl, by kernel_rfl⟩
theorem k83 : compF Go.Proofs.Tryz.prog (mo.of mol) 83 = some v83.plain ∧ v83.body.clrOK v83.mus = true := ⟨by kernel_rfl, by kernel_rfl⟩
theorem k84 : compF Go.Proofs.Tryz.prog (mo.of mol) 84 = some v84.plain ∧ v84.body.clrOK v84.mus = true := ⟨by kernel_rfl, by kernel_rfl⟩
theorem k86 : compF Go.Proofs.Tryz.prog (mo.of mol) 86 = some v86.plain ∧ v86.body.clrOK v86.mus = true := ⟨by kernel_rfl, by kernel_rfl⟩
theorem k87 : compF Go.Proofs.Tryz.prog (mo.of mol) 87 = some v87.plain ∧ v87.body.clrOK v87.mus = true := ⟨by kernel_rfl, by kernel_rfl⟩
theorem k89 : compF Go.Proofs.Tryz.prog (mo.of mol) 89 = some v89.plain ∧ v89.body.clrOK v89.mus = true := ⟨by kernel_rfl, by kernel_rfl⟩
theorem k90 : compF Go.Proofs.Tryz.prog (mo.of mol) 90 = some v90.plain ∧ v90.body.clrOK v90.mus = true := ⟨by kernel_rfl, by kernel_rfl⟩
theorem k91 : compF Go.Proofs.Tryz.prog (mo.of mol) 91 = some v91.plain ∧ v91.body.clrOK v91.mus = true := ⟨by kernel_rfl, by kernel_rfl⟩
theorem k96 : compF Go.Proofs.Tryz.prog (mo.of mol) 96 = some v96.plain ∧ v96.body.clrOK v96.mus = true := ⟨by kernel_rfl, by kernel_rfl⟩
theorem k101 : compF Go.Proofs.Tryz.prog (mo.of mol) 101 = some v101.plain ∧ v101.body.clrOK v101.mus = true := ⟨by kernel_rfl, by kernel_rfl⟩
theorem k105 : compF Go.Proofs.Tryz.prog (mo.of mol) 105 = some v105.plain ∧ v105.body.clrOK v105.mus = true := ⟨by kernel_rfl, by kernel_rfl⟩
theorem k106 : compF Go.Proofs.Tryz.prog (mo.of mol) 106 = some v106.plain ∧ v106.body.clrOK v106.mus = true := ⟨by kernel_rfl, by kernel_rfl⟩
theorem k107 : compF Go.Proofs.Tryz.prog (mo.of mol) 107 = some v107.plain ∧ v107.body.clrOK v107.mus = true := ⟨by kernel_rfl, by kernel_rfl⟩
theorem k112 : compF Go.Proofs.Tryz.prog (mo.of mol) 112 = some v112.plain ∧ v112.body.clrOK v112.mus = true := ⟨by kernel_rfl, by kernel_rfl⟩
theorem k113 : compF Go.Proofs.Tryz.prog (mo.of mol) 113 = some v113.plain ∧ v113.body.clrOK v113.mus = true := ⟨by kernel_rfl, by kernel_rfl⟩
theorem k115 : compF Go.Proofs.Tryz.prog (mo.of mol) 115 = some v115.plain ∧ v115.body.clrOK v115.mus = true := ⟨by kernel_rfl, by kernel_rfl⟩
theorem k116 : compF Go.Proofs.Tryz.prog (mo.of mol) 116 = some v116.plain ∧ v116.body.clrOK v116.mus = true := ⟨by kernel_rfl, by kernel_rfl⟩
theorem k117 : compF Go.Proofs.Tryz.prog (mo.of mol) 117 = some v117.plain ∧ v117.body.clrOK v117.mus = true := ⟨by kernel_rfl, by kernel_rfl⟩
theorem k118 : compF Go.Proofs.Tryz.prog (mo.of mol) 118 = some v118.plain ∧ v118.body.clrOK v118.mus = true := ⟨by kernel_rfl, by kernel_rfl⟩
theorem k119 : compF Go.Proofs.Tryz.prog (mo.of mol) 119 = some v119.plain ∧ v119.body.clrOK v119.mus = true := ⟨by kernel_rfl, by kernel_rfl⟩
theorem k120 : compF Go.Proofs.Tryz.prog (mo.of mol) 120 = some v120.plain ∧ v120.body.clrOK v120.mus = true := ⟨by kernel_rfl, by kernel_rfl⟩
theorem k121 : compF Go.Proofs.Tryz.prog (mo.of mol) 121 = some v121.plain ∧ v121.body.clrOK v121.mus = true := ⟨by kernel_rfl, by kernel_rfl⟩
theorem k122 : compF Go.Proofs.Tryz.prog (mo.of mol) 122 = some v122.plain ∧ v122.body.clrOK v122.mus = true := ⟨by kernel_rfl, by kernel_rfl⟩
theorem k123 : compF Go.Proofs.Tryz.prog (mo.of mol) 123 = some v123.plain ∧ v123.body.clrOK v123.mus = true := ⟨by kernel_rfl, by kernel_rfl⟩
theorem k124 : compM Go.Proofs.Tryz.prog (mo.of mol) 124 = some [(0, (.many 2), 42), (2, (.many 3), 20), (5, (.many 5), 193)] := by kernel_rfl
theorem k125 : compF Go.Proofs.Tryz.prog (mo.of mol) 125 = some v125.plain ∧ v125.body.clrOK v125.mus = true := ⟨by kernel_rfl, by kernel_rfl⟩
theorem k126 : compF Go.Proofs.Tryz.prog (mo.of mol) 126 = some v126.plain ∧ v126.body.clrOK v126.mus = true := ⟨by kernel_rfl, by kernel_rfl⟩
theorem k139 : compF Go.Proofs.Tryz.prog (mo.of mol) 139 = some v139.plain ∧ v139.body.clrOK v139.mus = true := ⟨by kernel_rfl, by kernel_rfl⟩
theorem k140 : compF Go.Proofs.Tryz.prog (mo.of mol) 140 = some v140.plain ∧ v140.body.clrOK v140.mus = true := ⟨by kernel_rfl, by kernel_rfl⟩
theorem k142 : compF Go.Proofs.Tryz.prog (mo.of mol) 142 = some v142.plain ∧ v142.body.clrOK v142.mus = true := ⟨by kernel_rfl, by kernel_rfl⟩
theorem k143 : compF Go.Proofs.Tryz.prog (mo.of mol) 143 = some v143.plain ∧ v143.body.clrOK v143.mus = true := ⟨by kernel_rfl, by kernel_rfl⟩
theorem k159 : compF Go.Proofs.Tryz.prog (mo.of mol) 159 = some v159.plain ∧ v159.body.clrOK v159.mus = true := ⟨by kernel_rfl, by kernel_rfl⟩
theorem k160 : compF Go.Proofs.Tryz.prog (mo.of mol) 160 = some v160.plain ∧ v160.body.clrOK v160.mus = true := ⟨by kernel_rfl, by kernel_rfl⟩
theorem k161 : compF Go.Proofs.Tryz.prog (mo.of mol) 161 = some v161.plain ∧ v161.body.clrOK v161.mus = true := ⟨by kernel_rfl, by kernel_rfl⟩
theorem k163 : compF Go.Proofs.Tryz.prog (mo.of mol) 163 = some v163.plain ∧ v163.body.clrOK v163.mus = true := ⟨by kernel_rfl, by kernel_rfl⟩
theorem k164 : compF Go.Proofs.Tryz.prog (mo.of mol) 164 = some v164.plain ∧ v164.body.clrOK v164.mus = true := ⟨by kernel_rfl, by kernel_rfl⟩
theorem k169 : compF Go.Proofs.Tryz.prog (mo.of mol) 169 = some v169.plain ∧ v169.body.clrOK v169.mus = true := ⟨by kernel_rfl, by kernel_rfl⟩
theorem k174 : compF Go.Proofs.Tryz.prog (mo.of mol) 174 = some v174.plain ∧ v174.body.clrOK v174.mus = true := ⟨by kernel_rfl, by kernel_rfl⟩
theorem k175 : compF Go.Proofs.Tryz.prog (mo.of mol) 175 = some v175.plain ∧ v175.body.clrOK v175.mus = true := ⟨by kernel_rfl, by kernel_rfl⟩
theorem k184 : compF Go.Proofs.Tryz.prog (mo.of mol) 184 = some v184.plain ∧ v184.body.clrOK v184.mus = true := ⟨by kernel_rfl, by kernel_rfl⟩
theorem k185 : compF Go.Proofs.Tryz.prog (mo.of mol) 185 = some v185.plain ∧ v185.body.clrOK v185.mus = true := ⟨by kernel_rfl, by kernel_rfl⟩
theorem k186 : compF Go.Proofs.Tryz.prog (mo.of mol) 186 = some v186.plain ∧ v186.body.clrOK v186.mus = true := ⟨by kernel_rfl, by kernel_rfl⟩
theorem k187 : compF Go.Proofs.Tryz.prog (mo.of mol) 187 = some v187.plain ∧ v187.body.clrOK v187.mus = true := ⟨by kernel_rfl, by kernel_rfl⟩
theorem k188 : compF Go.Proofs.Tryz.prog (mo.of mol) 188 = some v188.plain ∧ v188.body.clrOK v188.mus = true := ⟨by kernel_rfl, by kernel_rfl⟩
theorem k189 : compF Go.Proofs.Tryz.prog (mo.of mol) 189 = some v189.plain ∧ v189.body.clrOK v189.mus = true := ⟨by kernel_rfl, by kernel_rfl⟩
theorem k190 : compF Go.Proofs.Tryz.prog (mo.of mol) 190 = some v190.plain ∧ v190.body.clrOK v190.mus = true := ⟨by kernel_rfl, by kernel_rfl⟩
theorem k191 : compF Go.Proofs.Tryz.prog (mo.of mol) 191 = some v191.plain ∧ v191.body.clrOK v191.mus = true := ⟨by kernel_rfl, by kernel_rfl⟩
theorem k192 : compF Go.Proofs.Tryz.prog (mo.of mol) 192 = some v192.plain ∧ v192.body.clrOK v192.mus = true := ⟨by kernel_rfl, by kernel_rfl⟩
theorem k193 : compM Go.Proofs.Tryz.prog (mo.of mol) 193 = some [(0, .one, 21), (2, .one, 21), (3, .one, 233), (4, .one, 21)] := by kernel_rfl
theorem k194 : compF Go.Proofs.Tryz.prog (mo.of mol) 194 = some v194.plain ∧ v194.body.clrOK v194.mus = true := ⟨by kernel_rfl, by kernel_rfl⟩
theorem k224 : compF Go.Proofs.Tryz.prog (mo.of mol) 224 = some v224.plain ∧ v224.body.clrOK v224.mus = true := ⟨by kernel_rfl, by kernel_rfl⟩
theorem k225 : compF Go.Proofs.Tryz.prog (mo.of mol) 225 = some v225.plain ∧ v225.body.clrOK v225.mus = true := ⟨by kernel_rfl, by kernel_rfl⟩
theorem k229 : compF Go.Proofs.Tryz.prog (mo.of mol) 229 = some v229.plain ∧ v229.body.clrOK v229.mus = true := ⟨by kernel_rfl, by kernel_rfl⟩
theorem k230 : compF Go.Proofs.Tryz.prog (mo.of mol) 230 = some v230.plain ∧ v230.body.clrOK v230.mus = true := ⟨by kernel_rfl, by kernel_rfl⟩
theorem k231 : compF Go.Proofs.Tryz.prog (mo.of mol) 231 = some v231.plain ∧ v231.body.clrOK v231.mus = true := ⟨by kernel_rfl, by kernel_rfl⟩
theorem k232 : compF Go.Proofs.Tryz.prog (mo.of mol) 232 = some v232.plain ∧ v232.body.clrOK v232.mus = true := ⟨by kernel_rfl, by kernel_rfl⟩
theorem k233 : compF Go.Proofs.Tryz.prog (mo.of mol) 233 = some v233.plain ∧ v233.body.clrOK v233.mus = true := ⟨by kernel_rfl, by kernel_rfl⟩
theorem k234 : compF Go.Proofs.Tryz.prog (mo.of mol) 234 = some v234.plain ∧ v234.body.clrOK v234.mus = true := ⟨by kernel_rfl, by kernel_rfl⟩
theorem k260 : compF Go.Proofs.Tryz.prog (mo.of mol) 260 = some v260.plain ∧ v260.body.clrOK v260.mus = true := ⟨by kernel_rfl, by kernel_rfl⟩
theorem k261 : compF Go.Proofs.Tryz.prog (mo.of mol) 261 = some v261.plain ∧ v261.body.clrOK v261.mus = true := ⟨by kernel_rfl, by kernel_rfl⟩
theorem k262 : compF Go.Proofs.Tryz.prog (mo.of mol) 262 = some v262.plain ∧ v262.body.clrOK v262.mus = true := ⟨by kernel_rfl, by kernel_rfl⟩
theorem allF : AllP (fun f fv => compF Go.Proofs.Tryz.prog (mo.of mol) f = some fv.plain ∧ fv.body.clrOK fv.mus = true) fns := ⟨k9, k11, k12, k14, k15, k17, k18, k19, k21, k22, k23, k26, k29, k31, k33, k34, k35, k36, k38, k40, k41, k43, k44, k46, k48, k50, k52, k53, k54, k55, k56, k57, k60, k66, k67, k70, k71, k76, k77, k78, k79, k80, k81, k83, k84, k86, k87, k89, k90, k91, k96, k101, k105, k106, k107, k112, k113, k115, k116, k117, k118, k119, k120, k121, k122, k123, k125, k126, k139, k140, k142, k143, k159, k160, k161, k163, k164, k169, k174, k175, k184, k185, k186, k187, k188, k189, k190, k191, k192, k194, k224, k225, k229, k230, k231, k232, k233, k234, k260, k261, k262, trivial⟩
theorem allM : AllP (fun f ms => compM Go.Proofs.Tryz.prog (mo.of mol) f = some ms) mrks := ⟨k20, k42, k58, k59, k124, k193, trivial⟩
theorem hok (hm : Go.Proofs.Tryz.prog.follows .mixedOrders = true) : HOK Go.Proofs.Tryz.prog (mo.of mol) (vcall T) := vcall_ok (drawOK hm) (fun f ms h => allM.look h) (fun f fv h => allF.look h) (fun f g h => by cases h)
end Go.Vx.OcZ
