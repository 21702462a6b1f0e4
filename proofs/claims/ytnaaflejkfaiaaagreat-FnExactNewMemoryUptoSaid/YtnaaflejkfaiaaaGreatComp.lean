/-
  The instructions are the program's.
-/
import Derived.Test.YtnaaflejkfaiaaaGreatCode
import Derived.Test.YtnaaflejkfaiaaaGreatVxC
import Derived.Test.YtnaaflejkfaiaaaGreatLay
import Derived.Test.YtnaaflejkfaiaaaGreatProg
import Derived.KernelRfl
set_option linter.unusedVariables false
set_option linter.unusedSimpArgs false
namespace Go.Vx.NmZ
set_option maxRecDepth 100000
theorem k3 : zae Go.Proofs.Tryz.prog (mo.of mol) 3 = some v3.plain ∧ v3.body.clrOK v3.mus = true := ⟨by kernel_rfl, by kernel_rfl⟩
theorem k8 : zae Go.Proofs.Tryz.prog (mo.of mol) 8 = some v8.plain ∧ v8.body.clrOK v8.mus = true := ⟨by kernel_rfl, by kernel_rfl⟩
theorem k9 : zae Go.Proofs.Tryz.prog (mo.of mol) 9 = some v9.plain ∧ v9.body.clrOK v9.mus = true := ⟨by kernel_rfl, by kernel_rfl⟩
theorem k10 : zae Go.Proofs.Tryz.prog (mo.of mol) 10 = some v10.plain ∧ v10.body.clrOK v10.mus = true := ⟨by kernel_rfl, by kernel_rfl⟩
theorem k11 : zae Go.Proofs.Tryz.prog (mo.of mol) 11 = some v11.plain ∧ v11.body.clrOK v11.mus = true := ⟨by kernel_rfl, by kernel_rfl⟩
theorem k12 : zae Go.Proofs.Tryz.prog (mo.of mol) 12 = some v12.plain ∧ v12.body.clrOK v12.mus = true := ⟨by kernel_rfl, by kernel_rfl⟩
theorem k13 : zae Go.Proofs.Tryz.prog (mo.of mol) 13 = some v13.plain ∧ v13.body.clrOK v13.mus = true := ⟨by kernel_rfl, by kernel_rfl⟩
theorem k14 : zae Go.Proofs.Tryz.prog (mo.of mol) 14 = some v14.plain ∧ v14.body.clrOK v14.mus = true := ⟨by kernel_rfl, by kernel_rfl⟩
theorem k15 : zoj Go.Proofs.Tryz.prog (mo.of mol) 15 = some [(0, (.many 2), 44), (2, (.many 3), 45), (5, (.many 5), 46)] := by kernel_rfl
theorem k16 : zae Go.Proofs.Tryz.prog (mo.of mol) 16 = some v16.plain ∧ v16.body.clrOK v16.mus = true := ⟨by kernel_rfl, by kernel_rfl⟩
theorem k37 : zae Go.Proofs.Tryz.prog (mo.of mol) 37 = some v37.plain ∧ v37.body.clrOK v37.mus = true := ⟨by kernel_rfl, by kernel_rfl⟩
theorem k38 : zae Go.Proofs.Tryz.prog (mo.of mol) 38 = some v38.plain ∧ v38.body.clrOK v38.mus = true := ⟨by kernel_rfl, by kernel_rfl⟩
theorem k39 : zae Go.Proofs.Tryz.prog (mo.of mol) 39 = some v39.plain ∧ v39.body.clrOK v39.mus = true := ⟨by kernel_rfl, by kernel_rfl⟩
theorem k40 : zae Go.Proofs.Tryz.prog (mo.of mol) 40 = some v40.plain ∧ v40.body.clrOK v40.mus = true := ⟨by kernel_rfl, by kernel_rfl⟩
theorem k41 : zae Go.Proofs.Tryz.prog (mo.of mol) 41 = some v41.plain ∧ v41.body.clrOK v41.mus = true := ⟨by kernel_rfl, by kernel_rfl⟩
theorem k42 : zae Go.Proofs.Tryz.prog (mo.of mol) 42 = some v42.plain ∧ v42.body.clrOK v42.mus = true := ⟨by kernel_rfl, by kernel_rfl⟩
theorem k43 : zae Go.Proofs.Tryz.prog (mo.of mol) 43 = some v43.plain ∧ v43.body.clrOK v43.mus = true := ⟨by kernel_rfl, by kernel_rfl⟩
theorem k44 : zoj Go.Proofs.Tryz.prog (mo.of mol) 44 = some [(1, .one, 106)] := by kernel_rfl
theorem k45 : zoj Go.Proofs.Tryz.prog (mo.of mol) 45 = some [(0, .one, 65), (1, .one, 107), (2, .one, 108)] := by kernel_rfl
theorem k46 : zoj Go.Proofs.Tryz.prog (mo.of mol) 46 = some [(0, .one, 14), (2, .one, 14), (3, .one, 109), (4, .one, 14)] := by kernel_rfl
theorem k47 : zae Go.Proofs.Tryz.prog (mo.of mol) 47 = some v47.plain ∧ v47.body.clrOK v47.mus = true := ⟨by kernel_rfl, by kernel_rfl⟩
theorem k48 : zae Go.Proofs.Tryz.prog (mo.of mol) 48 = some v48.plain ∧ v48.body.clrOK v48.mus = true := ⟨by kernel_rfl, by kernel_rfl⟩
theorem k49 : zae Go.Proofs.Tryz.prog (mo.of mol) 49 = some v49.plain ∧ v49.body.clrOK v49.mus = true := ⟨by kernel_rfl, by kernel_rfl⟩
theorem k62 : zae Go.Proofs.Tryz.prog (mo.of mol) 62 = some v62.plain ∧ v62.body.clrOK v62.mus = true := ⟨by kernel_rfl, by kernel_rfl⟩
theorem k65 : zae Go.Proofs.Tryz.prog (mo.of mol) 65 = some v65.plain ∧ v65.body.clrOK v65.mus = true := ⟨by kernel_rfl, by kernel_rfl⟩
theorem k69 : zae Go.Proofs.Tryz.prog (mo.of mol) 69 = some v69.plain ∧ v69.body.clrOK v69.mus = true := ⟨by kernel_rfl, by kernel_rfl⟩
theorem k79 : zae Go.Proofs.Tryz.prog (mo.of mol) 79 = some v79.plain ∧ v79.body.clrOK v79.mus = true := ⟨by kernel_rfl, by kernel_rfl⟩
theorem k88 : zae Go.Proofs.Tryz.prog (mo.of mol) 88 = some v88.plain ∧ v88.body.clrOK v88.mus = true := ⟨by kernel_rfl, by kernel_rfl⟩
theorem k89 : zae Go.Proofs.Tryz.prog (mo.of mol) 89 = some v89.plain ∧ v89.body.clrOK v89.mus = true := ⟨by kernel_rfl, by kernel_rfl⟩
theorem k90 : zae Go.Proofs.Tryz.prog (mo.of mol) 90 = some v90.plain ∧ v90.body.clrOK v90.mus = true := ⟨by kernel_rfl, by kernel_rfl⟩
theorem k91 : zae Go.Proofs.Tryz.prog (mo.of mol) 91 = some v91.plain ∧ v91.body.clrOK v91.mus = true := ⟨by kernel_rfl, by kernel_rfl⟩
theorem k92 : zae Go.Proofs.Tryz.prog (mo.of mol) 92 = some v92.plain ∧ v92.body.clrOK v92.mus = true := ⟨by kernel_rfl, by kernel_rfl⟩
theorem k93 : zae Go.Proofs.Tryz.prog (mo.of mol) 93 = some v93.plain ∧ v93.body.clrOK v93.mus = true := ⟨by kernel_rfl, by kernel_rfl⟩
theorem k94 : zae Go.Proofs.Tryz.prog (mo.of mol) 94 = some v94.plain ∧ v94.body.clrOK v94.mus = true := ⟨by kernel_rfl, by kernel_rfl⟩
theorem k95 : zae Go.Proofs.Tryz.prog (mo.of mol) 95 = some v95.plain ∧ v95.body.clrOK v95.mus = true := ⟨by kernel_rfl, by kernel_rfl⟩
theorem k96 : zae Go.Proofs.Tryz.prog (mo.of mol) 96 = some v96.plain ∧ v96.body.clrOK v96.mus = true := ⟨by kernel_rfl, by kernel_rfl⟩
theorem k97 : zae Go.Proofs.Tryz.prog (mo.of mol) 97 = some v97.plain ∧ v97.body.clrOK v97.mus = true := ⟨by kernel_rfl, by kernel_rfl⟩
theorem k98 : zae Go.Proofs.Tryz.prog (mo.of mol) 98 = some v98.plain ∧ v98.body.clrOK v98.mus = true := ⟨by kernel_rfl, by kernel_rfl⟩
theorem k99 : zae Go.Proofs.Tryz.prog (mo.of mol) 99 = some v99.plain ∧ v99.body.clrOK v99.mus = true := ⟨by kernel_rfl, by kernel_rfl⟩
theorem k100 : zae Go.Proofs.Tryz.prog (mo.of mol) 100 = some v100.plain ∧ v100.body.clrOK v100.mus = true := ⟨by kernel_rfl, by kernel_rfl⟩
theorem k101 : zae Go.Proofs.Tryz.prog (mo.of mol) 101 = some v101.plain ∧ v101.body.clrOK v101.mus = true := ⟨by kernel_rfl, by kernel_rfl⟩
theorem k102 : zae Go.Proofs.Tryz.prog (mo.of mol) 102 = some v102.plain ∧ v102.body.clrOK v102.mus = true := ⟨by kernel_rfl, by kernel_rfl⟩
theorem k103 : zae Go.Proofs.Tryz.prog (mo.of mol) 103 = some v103.plain ∧ v103.body.clrOK v103.mus = true := ⟨by kernel_rfl, by kernel_rfl⟩
theorem k104 : zae Go.Proofs.Tryz.prog (mo.of mol) 104 = some v104.plain ∧ v104.body.clrOK v104.mus = true := ⟨by kernel_rfl, by kernel_rfl⟩
theorem k105 : zae Go.Proofs.Tryz.prog (mo.of mol) 105 = some v105.plain ∧ v105.body.clrOK v105.mus = true := ⟨by kernel_rfl, by kernel_rfl⟩
theorem k106 : zae Go.Proofs.Tryz.prog (mo.of mol) 106 = some v106.plain ∧ v106.body.clrOK v106.mus = true := ⟨by kernel_rfl, by kernel_rfl⟩
theorem k107 : zae Go.Proofs.Tryz.prog (mo.of mol) 107 = some v107.plain ∧ v107.body.clrOK v107.mus = true := ⟨by kernel_rfl, by kernel_rfl⟩
theorem k108 : zae Go.Proofs.Tryz.prog (mo.of mol) 108 = some v108.plain ∧ v108.body.clrOK v108.mus = true := ⟨by kernel_rfl, by kernel_rfl⟩
theorem k109 : zae Go.Proofs.Tryz.prog (mo.of mol) 109 = some v109.plain ∧ v109.body.clrOK v109.mus = true := ⟨by kernel_rfl, by kernel_rfl⟩
theorem k110 : zae Go.Proofs.Tryz.prog (mo.of mol) 110 = some v110.plain ∧ v110.body.clrOK v110.mus = true := ⟨by kernel_rfl, by kernel_rfl⟩
theorem k111 : zae Go.Proofs.Tryz.prog (mo.of mol) 111 = some v111.plain ∧ v111.body.clrOK v111.mus = true := ⟨by kernel_rfl, by kernel_rfl⟩
theorem k112 : zae Go.Proofs.Tryz.prog (mo.of mol) 112 = some v112.plain ∧ v112.body.clrOK v112.mus = true := ⟨by kernel_rfl, by kernel_rfl⟩
theorem k113 : zae Go.Proofs.Tryz.prog (mo.of mol) 113 = some v113.plain ∧ v113.body.clrOK v113.mus = true := ⟨by kernel_rfl, by kernel_rfl⟩
theorem k114 : zae Go.Proofs.Tryz.prog (mo.of mol) 114 = some v114.plain ∧ v114.body.clrOK v114.mus = true := ⟨by kernel_rfl, by kernel_rfl⟩
theorem k118 : zae Go.Proofs.Tryz.prog (mo.of mol) 118 = some v118.plain ∧ v118.body.clrOK v118.mus = true := ⟨by kernel_rfl, by kernel_rfl⟩
theorem k120 : zae Go.Proofs.Tryz.prog (mo.of mol) 120 = some v120.plain ∧ v120.body.clrOK v120.mus = true := ⟨by kernel_rfl, by kernel_rfl⟩
theorem k133 : zae Go.Proofs.Tryz.prog (mo.of mol) 133 = some v133.plain ∧ v133.body.clrOK v133.mus = true := ⟨by kernel_rfl, by kernel_rfl⟩
theorem k136 : zae Go.Proofs.Tryz.prog (mo.of mol) 136 = some v136.plain ∧ v136.body.clrOK v136.mus = true := ⟨by kernel_rfl, by kernel_rfl⟩
theorem k137 : zae Go.Proofs.Tryz.prog (mo.of mol) 137 = some v137.plain ∧ v137.body.clrOK v137.mus = true := ⟨by kernel_rfl, by kernel_rfl⟩
theorem k138 : zae Go.Proofs.Tryz.prog (mo.of mol) 138 = some v138.plain ∧ v138.body.clrOK v138.mus = true := ⟨by kernel_rfl, by kernel_rfl⟩
theorem k140 : zae Go.Proofs.Tryz.prog (mo.of mol) 140 = some v140.plain ∧ v140.body.clrOK v140.mus = true := ⟨by kernel_rfl, by kernel_rfl⟩
theorem k143 : zae Go.Proofs.Tryz.prog (mo.of mol) 143 = some v143.plain ∧ v143.body.clrOK v143.mus = true := ⟨by kernel_rfl, by kernel_rfl⟩
theorem k154 : zae Go.Proofs.Tryz.prog (mo.of mol) 154 = some v154.plain ∧ v154.body.clrOK v154.mus = true := ⟨by kernel_rfl, by kernel_rfl⟩
theorem k155 : zae Go.Proofs.Tryz.prog (mo.of mol) 155 = some v155.plain ∧ v155.body.clrOK v155.mus = true := ⟨by kernel_rfl, by kernel_rfl⟩
theorem k156 : zae Go.Proofs.Tryz.prog (mo.of mol) 156 = some v156.plain ∧ v156.body.clrOK v156.mus = true := ⟨by kernel_rfl, by kernel_rfl⟩
theorem k157 : zae Go.Proofs.Tryz.prog (mo.of mol) 157 = some v157.plain ∧ v157.body.clrOK v157.mus = true := ⟨by kernel_rfl, by kernel_rfl⟩
theorem k158 : zae Go.Proofs.Tryz.prog (mo.of mol) 158 = some v158.plain ∧ v158.body.clrOK v158.mus = true := ⟨by kernel_rfl, by kernel_rfl⟩
theorem k159 : zae Go.Proofs.Tryz.prog (mo.of mol) 159 = some v159.plain ∧ v159.body.clrOK v159.mus = true := ⟨by kernel_rfl, by kernel_rfl⟩
theorem k160 : zae Go.Proofs.Tryz.prog (mo.of mol) 160 = some v160.plain ∧ v160.body.clrOK v160.mus = true := ⟨by kernel_rfl, by kernel_rfl⟩
theorem k161 : zae Go.Proofs.Tryz.prog (mo.of mol) 161 = some v161.plain ∧ v161.body.clrOK v161.mus = true := ⟨by kernel_rfl, by kernel_rfl⟩
theorem k162 : zae Go.Proofs.Tryz.prog (mo.of mol) 162 = some v162.plain ∧ v162.body.clrOK v162.mus = true := ⟨by kernel_rfl, by kernel_rfl⟩
theorem k163 : zae Go.Proofs.Tryz.prog (mo.of mol) 163 = some v163.plain ∧ v163.body.clrOK v163.mus = true := ⟨by kernel_rfl, by kernel_rfl⟩
theorem k164 : zae Go.Proofs.Tryz.prog (mo.of mol) 164 = some v164.plain ∧ v164.body.clrOK v164.mus = true := ⟨by kernel_rfl, by kernel_rfl⟩
theorem k165 : zae Go.Proofs.Tryz.prog (mo.of mol) 165 = some v165.plain ∧ v165.body.clrOK v165.mus = true := ⟨by kernel_rfl, by kernel_rfl⟩
theorem k166 : zae Go.Proofs.Tryz.prog (mo.of mol) 166 = some v166.plain ∧ v166.body.clrOK v166.mus = true := ⟨by kernel_rfl, by kernel_rfl⟩
theorem k167 : zae Go.Proofs.Tryz.prog (mo.of mol) 167 = some v167.plain ∧ v167.body.clrOK v167.mus = true := ⟨by kernel_rfl, by kernel_rfl⟩
theorem k168 : zae Go.Proofs.Tryz.prog (mo.of mol) 168 = some v168.plain ∧ v168.body.clrOK v168.mus = true := ⟨by kernel_rfl, by kernel_rfl⟩
theorem k169 : zae Go.Proofs.Tryz.prog (mo.of mol) 169 = some v169.plain ∧ v169.body.clrOK v169.mus = true := ⟨by kernel_rfl, by kernel_rfl⟩
theorem k170 : zae Go.Proofs.Tryz.prog (mo.of mol) 170 = some v170.plain ∧ v170.body.clrOK v170.mus = true := ⟨by kernel_rfl, by kernel_rfl⟩
theorem k171 : zae Go.Proofs.Tryz.prog (mo.of mol) 171 = some v171.plain ∧ v171.body.clrOK v171.mus = true := ⟨by kernel_rfl, by kernel_rfl⟩
theorem k172 : zae Go.Proofs.Tryz.prog (mo.of mol) 172 = some v172.plain ∧ v172.body.clrOK v172.mus = true := ⟨by kernel_rfl, by kernel_rfl⟩
theorem k173 : zae Go.Proofs.Tryz.prog (mo.of mol) 173 = some v173.plain ∧ v173.body.clrOK v173.mus = true := ⟨by kernel_rfl, by kernel_rfl⟩
theorem k174 : zae Go.Proofs.Tryz.prog (mo.of mol) 174 = some v174.plain ∧ v174.body.clrOK v174.mus = true := ⟨by kernel_rfl, by kernel_rfl⟩
theorem k175 : zae Go.Proofs.Tryz.prog (mo.of mol) 175 = some v175.plain ∧ v175.body.clrOK v175.mus = true := ⟨by kernel_rfl, by kernel_rfl⟩
theorem k176 : zae Go.Proofs.Tryz.prog (mo.of mol) 176 = some v176.plain ∧ v176.body.clrOK v176.mus = true := ⟨by kernel_rfl, by kernel_rfl⟩
theorem k177 : zae Go.Proofs.Tryz.prog (mo.of mol) 177 = some v177.plain ∧ v177.body.clrOK v177.mus = true := ⟨by kernel_rfl, by kernel_rfl⟩
theorem k178 : zae Go.Proofs.Tryz.prog (mo.of mol) 178 = some v178.plain ∧ v178.body.clrOK v178.mus = true := ⟨by kernel_rfl, by kernel_rfl⟩
theorem k179 : zae Go.Proofs.Tryz.prog (mo.of mol) 179 = some v179.plain ∧ v179.body.clrOK v179.mus = true := ⟨by kernel_rfl, by kernel_rfl⟩
theorem k180 : zae Go.Proofs.Tryz.prog (mo.of mol) 180 = some v180.plain ∧ v180.body.clrOK v180.mus = true := ⟨by kernel_rfl, by kernel_rfl⟩
theorem k181 : zae Go.Proofs.Tryz.prog (mo.of mol) 181 = some v181.plain ∧ v181.body.clrOK v181.mus = true := ⟨by kernel_rfl, by kernel_rfl⟩
theorem k182 : zae Go.Proofs.Tryz.prog (mo.of mol) 182 = some v182.plain ∧ v182.body.clrOK v182.mus = true := ⟨by kernel_rfl, by kernel_rfl⟩
theorem k183 : zae Go.Proofs.Tryz.prog (mo.of mol) 183 = some v183.plain ∧ v183.body.clrOK v183.mus = true := ⟨by kernel_rfl, by kernel_rfl⟩
theorem k184 : zae Go.Proofs.Tryz.prog (mo.of mol) 184 = some v184.plain ∧ v184.body.clrOK v184.mus = true := ⟨by kernel_rfl, by kernel_rfl⟩
theorem k185 : zae Go.Proofs.Tryz.prog (mo.of mol) 185 = some v185.plain ∧ v185.body.clrOK v185.mus = true := ⟨by kernel_rfl, by kernel_rfl⟩
theorem k186 : zae Go.Proofs.Tryz.prog (mo.of mol) 186 = some v186.plain ∧ v186.body.clrOK v186.mus = true := ⟨by kernel_rfl, by kernel_rfl⟩
theorem k187 : zae Go.Proofs.Tryz.prog (mo.of mol) 187 = some v187.plain ∧ v187.body.clrOK v187.mus = true := ⟨by kernel_rfl, by kernel_rfl⟩
theorem k188 : zae Go.Proofs.Tryz.prog (mo.of mol) 188 = some v188.plain ∧ v188.body.clrOK v188.mus = true := ⟨by kernel_rfl, by kernel_rfl⟩
theorem k189 : zae Go.Proofs.Tryz.prog (mo.of mol) 189 = some v189.plain ∧ v189.body.clrOK v189.mus = true := ⟨by kernel_rfl, by kernel_rfl⟩
theorem k190 : zae Go.Proofs.Tryz.prog (mo.of mol) 190 = some v190.plain ∧ v190.body.clrOK v190.mus = true := ⟨by kernel_rfl, by kernel_rfl⟩
theorem k191 : zae Go.Proofs.Tryz.prog (mo.of mol) 191 = some v191.plain ∧ v191.body.clrOK v191.mus = true := ⟨by kernel_rfl, by kernel_rfl⟩
theorem k192 : zae Go.Proofs.Tryz.prog (mo.of mol) 192 = some v192.plain ∧ v192.body.clrOK v192.mus = true := ⟨by kernel_rfl, by kernel_rfl⟩
theorem k193 : zae Go.Proofs.Tryz.prog (mo.of mol) 193 = some v193.plain ∧ v193.body.clrOK v193.mus = true := ⟨by kernel_rfl, by kernel_rfl⟩
theorem k196 : zae Go.Proofs.Tryz.prog (mo.of mol) 196 = some v196.plain ∧ v196.body.clrOK v196.mus = true := ⟨by kernel_rfl, by kernel_rfl⟩
theorem k197 : zae Go.Proofs.Tryz.prog (mo.of mol) 197 = some v197.plain ∧ v197.body.clrOK v197.mus = true := ⟨by kernel_rfl, by kernel_rfl⟩
theorem k198 : zae Go.Proofs.Tryz.prog (mo.of mol) 198 = some v198.plain ∧ v198.body.clrOK v198.mus = true := ⟨by kernel_rfl, by kernel_rfl⟩
theorem k203 : zae Go.Proofs.Tryz.prog (mo.of mol) 203 = some v203.plain ∧ v203.body.clrOK v203.mus = true := ⟨by kernel_rfl, by kernel_rfl⟩
theorem k207 : zae Go.Proofs.Tryz.prog (mo.of mol) 207 = some v207.plain ∧ v207.body.clrOK v207.mus = true := ⟨by kernel_rfl, by kernel_rfl⟩
theorem k214 : zae Go.Proofs.Tryz.prog (mo.of mol) 214 = some v214.plain ∧ v214.body.clrOK v214.mus = true := ⟨by kernel_rfl, by kernel_rfl⟩
theorem k215 : zae Go.Proofs.Tryz.prog (mo.of mol) 215 = some v215.plain ∧ v215.body.clrOK v215.mus = true := ⟨by kernel_rfl, by kernel_rfl⟩
theorem k216 : zae Go.Proofs.Tryz.prog (mo.of mol) 216 = some v216.plain ∧ v216.body.clrOK v216.mus = true := ⟨by kernel_rfl, by kernel_rfl⟩
theorem k217 : zae Go.Proofs.Tryz.prog (mo.of mol) 217 = some v217.plain ∧ v217.body.clrOK v217.mus = true := ⟨by kernel_rfl, by kernel_rfl⟩
theorem k218 : zae Go.Proofs.Tryz.prog (mo.of mol) 218 = some v218.plain ∧ v218.body.clrOK v218.mus = true := ⟨by kernel_rfl, by kernel_rfl⟩
theorem k219 : zae Go.Proofs.Tryz.prog (mo.of mol) 219 = some v219.plain ∧ v219.body.clrOK v219.mus = true := ⟨by kernel_rfl, by kernel_rfl⟩
theorem k220 : zae Go.Proofs.Tryz.prog (mo.of mol) 220 = some v220.plain ∧ v220.body.clrOK v220.mus = true := ⟨by kernel_rfl, by kernel_rfl⟩
theorem k221 : zae Go.Proofs.Tryz.prog (mo.of mol) 221 = some v221.plain ∧ v221.body.clrOK v221.mus = true := ⟨by kernel_rfl, by kernel_rfl⟩
theorem k222 : zae Go.Proofs.Tryz.prog (mo.of mol) 222 = some v222.plain ∧ v222.body.clrOK v222.mus = true := ⟨by kernel_rfl, by kernel_rfl⟩
theorem k223 : zae Go.Proofs.Tryz.prog (mo.of mol) 223 = some v223.plain ∧ v223.body.clrOK v223.mus = true := ⟨by kernel_rfl, by kernel_rfl⟩
theorem k224 : zae Go.Proofs.Tryz.prog (mo.of mol) 224 = some v224.plain ∧ v224.body.clrOK v224.mus = true := ⟨by kernel_rfl, by kernel_rfl⟩
theorem k225 : zae Go.Proofs.Tryz.prog (mo.of mol) 225 = some v225.plain ∧ v225.body.clrOK v225.mus = true := ⟨by kernel_rfl, by kernel_rfl⟩
theorem k226 : zae Go.Proofs.Tryz.prog (mo.of mol) 226 = some v226.plain ∧ v226.body.clrOK v226.mus = true := ⟨by kernel_rfl, by kernel_rfl⟩
theorem k227 : zae Go.Proofs.Tryz.prog (mo.of mol) 227 = some v227.plain ∧ v227.body.clrOK v227.mus = true := ⟨by kernel_rfl, by kernel_rfl⟩
theorem k228 : zae Go.Proofs.Tryz.prog (mo.of mol) 228 = some v228.plain ∧ v228.body.clrOK v228.mus = true := ⟨by kernel_rfl, by kernel_rfl⟩
theorem k229 : zae Go.Proofs.Tryz.prog (mo.of mol) 229 = some v229.plain ∧ v229.body.clrOK v229.mus = true := ⟨by kernel_rfl, by kernel_rfl⟩
theorem k230 : zae Go.Proofs.Tryz.prog (mo.of mol) 230 = some v230.plain ∧ v230.body.clrOK v230.mus = true := ⟨by kernel_rfl, by kernel_rfl⟩
theorem k231 : zae Go.Proofs.Tryz.prog (mo.of mol) 231 = some v231.plain ∧ v231.body.clrOK v231.mus = true := ⟨by kernel_rfl, by kernel_rfl⟩
theorem k234 : zae Go.Proofs.Tryz.prog (mo.of mol) 234 = some v234.plain ∧ v234.body.clrOK v234.mus = true := ⟨by kernel_rfl, by kernel_rfl⟩
theorem k235 : zae Go.Proofs.Tryz.prog (mo.of mol) 235 = some v235.plain ∧ v235.body.clrOK v235.mus = true := ⟨by kernel_rfl, by kernel_rfl⟩
theorem k236 : zae Go.Proofs.Tryz.prog (mo.of mol) 236 = some v236.plain ∧ v236.body.clrOK v236.mus = true := ⟨by kernel_rfl, by kernel_rfl⟩
theorem k237 : zae Go.Proofs.Tryz.prog (mo.of mol) 237 = some v237.plain ∧ v237.body.clrOK v237.mus = true := ⟨by kernel_rfl, by kernel_rfl⟩
theorem k238 : zae Go.Proofs.Tryz.prog (mo.of mol) 238 = some v238.plain ∧ v238.body.clrOK v238.mus = true := ⟨by kernel_rfl, by kernel_rfl⟩
theorem k239 : zae Go.Proofs.Tryz.prog (mo.of mol) 239 = some v239.plain ∧ v239.body.clrOK v239.mus = true := ⟨by kernel_rfl, by kernel_rfl⟩
theorem k247 : zae Go.Proofs.Tryz.prog (mo.of mol) 247 = some v247.plain ∧ v247.body.clrOK v247.mus = true := ⟨by kernel_rfl, by kernel_rfl⟩
theorem k248 : zae Go.Proofs.Tryz.prog (mo.of mol) 248 = some v248.plain ∧ v248.body.clrOK v248.mus = true := ⟨by kernel_rfl, by kernel_rfl⟩
theorem k249 : zae Go.Proofs.Tryz.prog (mo.of mol) 249 = some v249.plain ∧ v249.body.clrOK v249.mus = true := ⟨by kernel_rfl, by kernel_rfl⟩
theorem k250 : zae Go.Proofs.Tryz.prog (mo.of mol) 250 = some v250.plain ∧ v250.body.clrOK v250.mus = true := ⟨by kernel_rfl, by kernel_rfl⟩
theorem k251 : zae Go.Proofs.Tryz.prog (mo.of mol) 251 = some v251.plain ∧ v251.body.clrOK v251.mus = true := ⟨by kernel_rfl, by kernel_rfl⟩
theorem k252 : zae Go.Proofs.Tryz.prog (mo.of mol) 252 = some v252.plain ∧ v252.body.clrOK v252.mus = true := ⟨by kernel_rfl, by kernel_rfl⟩
theorem k253 : zae Go.Proofs.Tryz.prog (mo.of mol) 253 = some v253.plain ∧ v253.body.clrOK v253.mus = true := ⟨by kernel_rfl, by kernel_rfl⟩
theorem k254 : zae Go.Proofs.Tryz.prog (mo.of mol) 254 = some v254.plain ∧ v254.body.clrOK v254.mus = true := ⟨by kernel_rfl, by kernel_rfl⟩
theorem k255 : zae Go.Proofs.Tryz.prog (mo.of mol) 255 = some v255.plain ∧ v255.body.clrOK v255.mus = true := ⟨by kernel_rfl, by kernel_rfl⟩
theorem k256 : zae Go.Proofs.Tryz.prog (mo.of mol) 256 = some v256.plain ∧ v256.body.clrOK v256.mus = true := ⟨by kernel_rfl, by kernel_rfl⟩
theorem k257 : zae Go.Proofs.Tryz.prog (mo.of mol) 257 = some v257.plain ∧ v257.body.clrOK v257.mus = true := ⟨by kernel_rfl, by kernel_rfl⟩
theorem k260 : zae Go.Proofs.Tryz.prog (mo.of mol) 260 = some v260.plain ∧ v260.body.clrOK v260.mus = true := ⟨by kernel_rfl, by kernel_rfl⟩
theorem k261 : zae Go.Proofs.Tryz.prog (mo.of mol) 261 = some v261.plain ∧ v261.body.clrOK v261.mus = true := ⟨by kernel_rfl, by kernel_rfl⟩
theorem k267 : zae Go.Proofs.Tryz.prog (mo.of mol) 267 = some v267.plain ∧ v267.body.clrOK v267.mus = true := ⟨by kernel_rfl, by kernel_rfl⟩
theorem k268 : zae Go.Proofs.Tryz.prog (mo.of mol) 268 = some v268.plain ∧ v268.body.clrOK v268.mus = true := ⟨by kernel_rfl, by kernel_rfl⟩
theorem allF : AllP (fun f fv => zae Go.Proofs.Tryz.prog (mo.of mol) f = some fv.plain ∧ fv.body.clrOK fv.mus = true) fns := ⟨k3, k8, k9, k10, k11, k12, k13, k14, k16, k37, k38, k39, k40, k41, k42, k43, k47, k48, k49, k62, k65, k69, k79, k88, k89, k90, k91, k92, k93, k94, k95, k96, k97, k98, k99, k100, k101, k102, k103, k104, k105, k106, k107, k108, k109, k110, k111, k112, k113, k114, k118, k120, k133, k136, k137, k138, k140, k143, k154, k155, k156, k157, k158, k159, k160, k161, k162, k163, k164, k165, k166, k167, k168, k169, k170, k171, k172, k173, k174, k175, k176, k177, k178, k179, k180, k181, k182, k183, k184, k185, k186, k187, k188, k189, k190, k191, k192, k193, k196, k197, k198, k203, k207, k214, k215, k216, k217, k218, k219, k220, k221, k222, k223, k224, k225, k226, k227, k228, k229, k230, k231, k234, k235, k236, k237, k238, k239, k247, k248, k249, k250, k251, k252, k253, k254, k255, k256, k257, k260, k261, k267, k268, trivial⟩
theorem allM : AllP (fun f ms => zoj Go.Proofs.Tryz.prog (mo.of mol) f = some ms) mrks := ⟨k15, k44, k45, k46, trivial⟩
theorem allP : AllP (fun f g => zft Go.Proofs.Tryz.prog f = true ∧ ∀ args d, g args = some d → ∀ sto, zhn Go.Proofs.Tryz.prog (mo.of mol f) f args sto (d.1, d.2, sto)) prs := ⟨⟨by kernel_rfl, fun _ _ h sto => zAh zAq h sto⟩, ⟨by kernel_rfl, fun _ _ h sto => ztX zAr h sto⟩, trivial⟩
theorem hok (hm : Go.Proofs.Tryz.prog.follows .mixedOrders = true) : HOK Go.Proofs.Tryz.prog (mo.of mol) (zab T) := zwq (zBb hm) (fun f ms h => allM.look h) (fun f fv h => allF.look h) (fun f g h => allP.look h)
end Go.Vx.NmZ
