/-
 The instructions are the program's.
-/
import Derived.Test.YthfkpkfcnnhkeaaGreatCode
import Derived.Test.YthfkpkfcnnhkeaaGreatVxC
import Derived.Test.YthfkpkfcnnhkeaaGreatLay
import Derived.Test.YthfkpkfcnnhkeaaGreatProg
import Derived.KernelRfl
set_option linter.unusedVariables false
set_option linter.unusedSimpArgs false
namespace Go.Vx.NrZ
set_option maxRecDepth 100000
theorem k6 : compF Go.Proofs.Tryz.prog (mo.of mol) 6 = some v6.plain ∧ v6.body.clrOK v6.mus = true := ⟨by kernel_rfl, by kernel_rfl⟩
theorem k12 : compF Go.Proofs.Tryz.prog (mo.of mol) 12 = some v12.plain ∧ v12.body.clrOK v12.mus = true := ⟨by kernel_rfl, by kernel_rfl⟩
theorem k15 : compF Go.Proofs.Tryz.prog (mo.of mol) 15 = some v15.plain ∧ v15.body.clrOK v15.mus = true := ⟨by kernel_rfl, by kernel_rfl⟩
theorem k19 : compF Go.Proofs.Tryz.prog (mo.of mol) 19 = some v19.plain ∧ v19.body.clrOK v19.mus = true := ⟨by kernel_rfl, by kernel_rfl⟩
theorem k21 : compF Go.Proofs.Tryz.prog (mo.of mol) 21 = some v21.plain ∧ v21.body.clrOK v21.mus = true := ⟨by kernel_rfl, by kernel_rfl⟩
theorem k29 : compF Go.Proofs.Tryz.prog (mo.of mol) 29 = some v29.plain ∧ v29.body.clrOK v29.mus = true := ⟨by kernel_rfl, by kernel_rfl⟩
theorem k31 : compF Go.Proofs.Tryz.prog (mo.of mol) 31 = some v31.plain ∧ v31.body.clrOK v31.mus = true := ⟨by kernel_rfl, by kernel_rfl⟩
theorem k33 : compF Go.Proofs.Tryz.prog (mo.of mol) 33 = some v33.plain ∧ v33.body.clrOK v33.mus = true := ⟨by kernel_rfl, by kernel_rfl⟩
theorem k34 : compF Go.Proofs.Tryz.prog (mo.of mol) 34 = some v34.plain ∧ v34.body.clrOK v34.mus = true := ⟨by kernel_rfl, by kernel_rfl⟩
theorem k36 : compF Go.Proofs.Tryz.prog (mo.of mol) 36 = some v36.plain ∧ v36.body.clrOK v36.mus = true := ⟨by kernel_rfl, by kernel_rfl⟩
theorem k37 : compF Go.Proofs.Tryz.prog (mo.of mol) 37 = some v37.plain ∧ v37.body.clrOK v37.mus = true := ⟨by kernel_rfl, by kernel_rfl⟩
theorem k38 : compF Go.Proofs.Tryz.prog (mo.of mol) 38 = some v38.plain ∧ v38.body.clrOK v38.mus = true := ⟨by kernel_rfl, by kernel_rfl⟩
theorem k39 : compF Go.Proofs.Tryz.prog (mo.of mol) 39 = some v39.plain ∧ v39.body.clrOK v39.mus = true := ⟨by kernel_rfl, by kernel_rfl⟩
theorem k40 : compF Go.Proofs.Tryz.prog (mo.of mol) 40 = some v40.plain ∧ v40.body.clrOK v40.mus = true := ⟨by kernel_rfl, by kernel_rfl⟩
theorem k41 : compF Go.Proofs.Tryz.prog (mo.of mol) 41 = some v41.plain ∧ v41.body.clrOK v41.mus = true := ⟨by kernel_rfl, by kernel_rfl⟩
theorem k42 : compM Go.Proofs.Tryz.prog (mo.of mol) 42 = some [(1, .one, 106)] := by kernel_rfl
theorem k43 : compF Go.Proofs.Tryz.prog (mo.of mol) 43 = some v43.plain ∧ v43.body.clrOK v43.mus = true := ⟨by kernel_rfl, by kernel_rfl⟩
theorem k44 : compF Go.Proofs.Tryz.prog (mo.of mol) 44 = some v44.plain ∧ v44.body.clrOK v44.mus = true := ⟨by kernel_rfl, by kernel_rfl⟩
theorem k46 : compF Go.Proofs.Tryz.prog (mo.of mol) 46 = some v46.plain ∧ v46.body.clrOK v46.mus = true := ⟨by kernel_rfl, by kernel_rfl⟩
theorem k68 : compF Go.Proofs.Tryz.prog (mo.of mol) 68 = some v68.plain ∧ v68.body.clrOK v68.mus = true := ⟨by kernel_rfl, by kernel_rfl⟩
theorem k73 : compF Go.Proofs.Tryz.prog (mo.of mol) 73 = some v73.plain ∧ v73.body.clrOK v73.mus = true := ⟨by kernel_rfl, by kernel_rfl⟩
theorem k74 : compF Go.Proofs.Tryz.prog (mo.of mol) 74 = some v74.plain ∧ v74.body.clrOK v74.mus = true := ⟨by kernel_rfl, by kernel_rfl⟩
theorem k81 : compF Go.Proofs.Tryz.prog (mo.of mol) 81 = some v81.plain ∧ v81.body.clrOK v81.mus = true := ⟨by kernel_rfl, by kernel_rfl⟩
theorem k91 : compF Go.Proofs.Tryz.prog (mo.of mol) 91 = some v91.plain ∧ v91.body.clrOK v91.mus = true := ⟨by kernel_rfl, by kernel_rfl⟩
theorem k92 : compF Go.Proofs.Tryz.prog (mo.of mol) 92 = some v92.plain ∧ v92.body.clrOK v92.mus = true := ⟨by kernel_rfl, by kernel_rfl⟩
theorem k93 : compF Go.Proofs.Tryz.prog (mo.of mol) 93 = some v93.plain ∧ v93.body.clrOK v93.mus = true := ⟨by kernel_rfl, by kernel_rfl⟩
theorem k94 : compF Go.Proofs.Tryz.prog (mo.of mol) 94 = some v94.plain ∧ v94.body.clrOK v94.mus = true := ⟨by kernel_rfl, by kernel_rfl⟩
theorem k95 : compF Go.Proofs.Tryz.prog (mo.of mol) 95 = some v95.plain ∧ v95.body.clrOK v95.mus = true := ⟨by kernel_rfl, by kernel_rfl⟩
theorem k96 : compF Go.Proofs.Tryz.prog (mo.of mol) 96 = some v96.plain ∧ v96.body.clrOK v96.mus = true := ⟨by kernel_rfl, by kernel_rfl⟩
theorem k97 : compF Go.Proofs.Tryz.prog (mo.of mol) 97 = some v97.plain ∧ v97.body.clrOK v97.mus = true := ⟨by kernel_rfl, by kernel_rfl⟩
theorem k98 : compF Go.Proofs.Tryz.prog (mo.of mol) 98 = some v98.plain ∧ v98.body.clrOK v98.mus = true := ⟨by kernel_rfl, by kernel_rfl⟩
theorem k99 : compF Go.Proofs.Tryz.prog (mo.of mol) 99 = some v99.plain ∧ v99.body.clrOK v99.mus = true := ⟨by kernel_rfl, by kernel_rfl⟩
theorem k100 : compF Go.Proofs.Tryz.prog (mo.of mol) 100 = some v100.plain ∧ v100.body.clrOK v100.mus = true := ⟨by kernel_rfl, by kernel_rfl⟩
theorem k101 : compF Go.Proofs.Tryz.prog (mo.of mol) 101 = some v101.plain ∧ v101.body.clrOK v101.mus = true := ⟨by kernel_rfl, by kernel_rfl⟩
theorem k102 : compF Go.Proofs.Tryz.prog (mo.of mol) 102 = some v102.plain ∧ v102.body.clrOK v102.mus = true := ⟨by kernel_rfl, by kernel_rfl⟩
theorem k103 : compF Go.Proofs.Tryz.prog (mo.of mol) 103 = some v103.plain ∧ v103.body.clrOK v103.mus = true := ⟨by kernel_rfl, by kernel_rfl⟩
theorem k104 : compF Go.Proofs.Tryz.prog (mo.of mol) 104 = some v104.plain ∧ v104.body.clrOK v104.mus = true := ⟨by kernel_rfl, by kernel_rfl⟩
theorem k105 : compF Go.Proofs.Tryz.prog (mo.of mol) 105 = some v105.plain ∧ v105.body.clrOK v105.mus = true := ⟨by kernel_rfl, by kernel_rfl⟩
theorem k106 : compF Go.Proofs.Tryz.prog (mo.of mol) 106 = some v106.plain ∧ v106.body.clrOK v106.mus = true := ⟨by kernel_rfl, by kernel_rfl⟩
theorem k107 : compF Go.Proofs.Tryz.prog (mo.of mol) 107 = some v107.plain ∧ v107.body.clrOK v107.mus = true := ⟨by kernel_rfl, by kernel_rfl⟩
theorem k108 : compF Go.Proofs.Tryz.prog (mo.of mol) 108 = some v108.plain ∧ v108.body.clrOK v108.mus = true := ⟨by kernel_rfl, by kernel_rfl⟩
theorem k110 : compF Go.Proofs.Tryz.prog (mo.of mol) 110 = some v110.plain ∧ v110.body.clrOK v110.mus = true := ⟨by kernel_rfl, by kernel_rfl⟩
theorem k141 : compF Go.Proofs.Tryz.prog (mo.of mol) 141 = some v141.plain ∧ v141.body.clrOK v141.mus = true := ⟨by kernel_rfl, by kernel_rfl⟩
theorem k156 : compF Go.Proofs.Tryz.prog (mo.of mol) 156 = some v156.plain ∧ v156.body.clrOK v156.mus = true := ⟨by kernel_rfl, by kernel_rfl⟩
theorem k157 : compF Go.Proofs.Tryz.prog (mo.of mol) 157 = some v157.plain ∧ v157.body.clrOK v157.mus = true := ⟨by kernel_rfl, by kernel_rfl⟩
theorem k158 : compF Go.Proofs.Tryz.prog (mo.of mol) 158 = some v158.plain ∧ v158.body.clrOK v158.mus = true := ⟨by kernel_rfl, by kernel_rfl⟩
theorem k161 : compF Go.Proofs.Tryz.prog (mo.of mol) 161 = some v161.plain ∧ v161.body.clrOK v161.mus = true := ⟨by kernel_rfl, by kernel_rfl⟩
theorem k164 : compF Go.Proofs.Tryz.prog (mo.of mol) 164 = some v164.plain ∧ v164.body.clrOK v164.mus = true := ⟨by kernel_rfl, by kernel_rfl⟩
theorem k165 : compF Go.Proofs.Tryz.prog (mo.of mol) 165 = some v165.plain ∧ v165.body.clrOK v165.mus = true := ⟨by kernel_rfl, by kernel_rfl⟩
theorem k166 : compF Go.Proofs.Tryz.prog (mo.of mol) 166 = some v166.plain ∧ v166.body.clrOK v166.mus = true := ⟨by kernel_rfl, by kernel_rfl⟩
theorem k167 : compF Go.Proofs.Tryz.prog (mo.of mol) 167 = some v167.plain ∧ v167.body.clrOK v167.mus = true := ⟨by kernel_rfl, by kernel_rfl⟩
theorem k168 : compF Go.Proofs.Tryz.prog (mo.of mol) 168 = some v168.plain ∧ v168.body.clrOK v168.mus = true := ⟨by kernel_rfl, by kernel_rfl⟩
theorem k169 : compF Go.Proofs.Tryz.prog (mo.of mol) 169 = some v169.plain ∧ v169.body.clrOK v169.mus = true := ⟨by kernel_rfl, by kernel_rfl⟩
theorem k170 : compF Go.Proofs.Tryz.prog (mo.of mol) 170 = some v170.plain ∧ v170.body.clrOK v170.mus = true := ⟨by kernel_rfl, by kernel_rfl⟩
theorem k171 : compF Go.Proofs.Tryz.prog (mo.of mol) 171 = some v171.plain ∧ v171.body.clrOK v171.mus = true := ⟨by kernel_rfl, by kernel_rfl⟩
theorem k172 : compF Go.Proofs.Tryz.prog (mo.of mol) 172 = some v172.plain ∧ v172.body.clrOK v172.mus = true := ⟨by kernel_rfl, by kernel_rfl⟩
theorem k173 : compF Go.Proofs.Tryz.prog (mo.of mol) 173 = some v173.plain ∧ v173.body.clrOK v173.mus = true := ⟨by kernel_rfl, by kernel_rfl⟩
theorem k174 : compF Go.Proofs.Tryz.prog (mo.of mol) 174 = some v174.plain ∧ v174.body.clrOK v174.mus = true := ⟨by kernel_rfl, by kernel_rfl⟩
theorem k175 : compF Go.Proofs.Tryz.prog (mo.of mol) 175 = some v175.plain ∧ v175.body.clrOK v175.mus = true := ⟨by kernel_rfl, by kernel_rfl⟩
theorem k176 : compF Go.Proofs.Tryz.prog (mo.of mol) 176 = some v176.plain ∧ v176.body.clrOK v176.mus = true := ⟨by kernel_rfl, by kernel_rfl⟩
theorem k177 : compF Go.Proofs.Tryz.prog (mo.of mol) 177 = some v177.plain ∧ v177.body.clrOK v177.mus = true := ⟨by kernel_rfl, by kernel_rfl⟩
theorem k178 : compF Go.Proofs.Tryz.prog (mo.of mol) 178 = some v178.plain ∧ v178.body.clrOK v178.mus = true := ⟨by kernel_rfl, by kernel_rfl⟩
theorem k179 : compF Go.Proofs.Tryz.prog (mo.of mol) 179 = some v179.plain ∧ v179.body.clrOK v179.mus = true := ⟨by kernel_rfl, by kernel_rfl⟩
theorem k205 : compF Go.Proofs.Tryz.prog (mo.of mol) 205 = some v205.plain ∧ v205.body.clrOK v205.mus = true := ⟨by kernel_rfl, by kernel_rfl⟩
theorem k206 : compF Go.Proofs.Tryz.prog (mo.of mol) 206 = some v206.plain ∧ v206.body.clrOK v206.mus = true := ⟨by kernel_rfl, by kernel_rfl⟩
theorem k208 : compF Go.Proofs.Tryz.prog (mo.of mol) 208 = some v208.plain ∧ v208.body.clrOK v208.mus = true := ⟨by kernel_rfl, by kernel_rfl⟩
theorem k212 : compF Go.Proofs.Tryz.prog (mo.of mol) 212 = some v212.plain ∧ v212.body.clrOK v212.mus = true := ⟨by kernel_rfl, by kernel_rfl⟩
theorem k213 : compF Go.Proofs.Tryz.prog (mo.of mol) 213 = some v213.plain ∧ v213.body.clrOK v213.mus = true := ⟨by kernel_rfl, by kernel_rfl⟩
theorem k214 : compF Go.Proofs.Tryz.prog (mo.of mol) 214 = some v214.plain ∧ v214.body.clrOK v214.mus = true := ⟨by kernel_rfl, by kernel_rfl⟩
theorem k215 : compF Go.Proofs.Tryz.prog (mo.of mol) 215 = some v215.plain ∧ v215.body.clrOK v215.mus = true := ⟨by kernel_rfl, by kernel_rfl⟩
theorem k216 : compF Go.Proofs.Tryz.prog (mo.of mol) 216 = some v216.plain ∧ v216.body.clrOK v216.mus = true := ⟨by kernel_rfl, by kernel_rfl⟩
theorem k217 : compF Go.Proofs.Tryz.prog (mo.of mol) 217 = some v217.plain ∧ v217.body.clrOK v217.mus = true := ⟨by kernel_rfl, by kernel_rfl⟩
theorem k218 : compF Go.Proofs.Tryz.prog (mo.of mol) 218 = some v218.plain ∧ v218.body.clrOK v218.mus = true := ⟨by kernel_rfl, by kernel_rfl⟩
theorem k221 : compF Go.Proofs.Tryz.prog (mo.of mol) 221 = some v221.plain ∧ v221.body.clrOK v221.mus = true := ⟨by kernel_rfl, by kernel_rfl⟩
theorem k222 : compF Go.Proofs.Tryz.prog (mo.of mol) 222 = some v222.plain ∧ v222.body.clrOK v222.mus = true := ⟨by kernel_rfl, by kernel_rfl⟩
theorem k223 : compF Go.Proofs.Tryz.prog (mo.of mol) 223 = some v223.plain ∧ v223.body.clrOK v223.mus = true := ⟨by kernel_rfl, by kernel_rfl⟩
theorem k224 : compF Go.Proofs.Tryz.prog (mo.of mol) 224 = some v224.plain ∧ v224.body.clrOK v224.mus = true := ⟨by kernel_rfl, by kernel_rfl⟩
theorem k225 : compF Go.Proofs.Tryz.prog (mo.of mol) 225 = some v225.plain ∧ v225.body.clrOK v225.mus = true := ⟨by kernel_rfl, by kernel_rfl⟩
theorem k245 : compF Go.Proofs.Tryz.prog (mo.of mol) 245 = some v245.plain ∧ v245.body.clrOK v245.mus = true := ⟨by kernel_rfl, by kernel_rfl⟩
theorem k246 : compF Go.Proofs.Tryz.prog (mo.of mol) 246 = some v246.plain ∧ v246.body.clrOK v246.mus = true := ⟨by kernel_rfl, by kernel_rfl⟩
theorem k247 : compF Go.Proofs.Tryz.prog (mo.of mol) 247 = some v247.plain ∧ v247.body.clrOK v247.mus = true := ⟨by kernel_rfl, by kernel_rfl⟩
theorem k248 : compF Go.Proofs.Tryz.prog (mo.of mol) 248 = some v248.plain ∧ v248.body.clrOK v248.mus = true := ⟨by kernel_rfl, by kernel_rfl⟩
theorem k251 : compF Go.Proofs.Tryz.prog (mo.of mol) 251 = some v251.plain ∧ v251.body.clrOK v251.mus = true := ⟨by kernel_rfl, by kernel_rfl⟩
theorem k252 : compF Go.Proofs.Tryz.prog (mo.of mol) 252 = some v252.plain ∧ v252.body.clrOK v252.mus = true := ⟨by kernel_rfl, by kernel_rfl⟩
theorem k253 : compF Go.Proofs.Tryz.prog (mo.of mol) 253 = some v253.plain ∧ v253.body.clrOK v253.mus = true := ⟨by kernel_rfl, by kernel_rfl⟩
theorem k254 : compF Go.Proofs.Tryz.prog (mo.of mol) 254 = some v254.plain ∧ v254.body.clrOK v254.mus = true := ⟨by kernel_rfl, by kernel_rfl⟩
theorem k255 : compF Go.Proofs.Tryz.prog (mo.of mol) 255 = some v255.plain ∧ v255.body.clrOK v255.mus = true := ⟨by kernel_rfl, by kernel_rfl⟩
theorem k256 : compF Go.Proofs.Tryz.prog (mo.of mol) 256 = some v256.plain ∧ v256.body.clrOK v256.mus = true := ⟨by kernel_rfl, by kernel_rfl⟩
theorem k257 : compF Go.Proofs.Tryz.prog (mo.of mol) 257 = some v257.plain ∧ v257.body.clrOK v257.mus = true := ⟨by kernel_rfl, by kernel_rfl⟩
theorem k277 : compF Go.Proofs.Tryz.prog (mo.of mol) 277 = some v277.plain ∧ v277.body.clrOK v277.mus = true := ⟨by kernel_rfl, by kernel_rfl⟩
theorem k278 : compF Go.Proofs.Tryz.prog (mo.of mol) 278 = some v278.plain ∧ v278.body.clrOK v278.mus = true := ⟨by kernel_rfl, by kernel_rfl⟩
theorem k279 : compF Go.Proofs.Tryz.prog (mo.of mol) 279 = some v279.plain ∧ v279.body.clrOK v279.mus = true := ⟨by kernel_rfl, by kernel_rfl⟩
theorem k280 : compF Go.Proofs.Tryz.prog (mo.of mol) 280 = some v280.plain ∧ v280.body.clrOK v280.mus = true := ⟨by kernel_rfl, by kernel_rfl⟩
theorem k281 : compF Go.Proofs.Tryz.prog (mo.of mol) 281 = some v281.plain ∧ v281.body.clrOK v281.mus = true := ⟨by kernel_rfl, by kernel_rfl⟩
theorem k282 : compF Go.Proofs.Tryz.prog (mo.of mol) 282 = some v282.plain ∧ v282.body.clrOK v282.mus = true := ⟨by kernel_rfl, by kernel_rfl⟩
theorem k292 : compF Go.Proofs.Tryz.prog (mo.of mol) 292 = some v292.plain ∧ v292.body.clrOK v292.mus = true := ⟨by kernel_rfl, by kernel_rfl⟩
theorem k293 : compF Go.Proofs.Tryz.prog (mo.of mol) 293 = some v293.plain ∧ v293.body.clrOK v293.mus = true := ⟨by kernel_rfl, by kernel_rfl⟩
theorem k294 : compF Go.Proofs.Tryz.prog (mo.of mol) 294 = some v294.plain ∧ v294.body.clrOK v294.mus = true := ⟨by kernel_rfl, by kernel_rfl⟩
theorem k297 : compF Go.Proofs.Tryz.prog (mo.of mol) 297 = some v297.plain ∧ v297.body.clrOK v297.mus = true := ⟨by kernel_rfl, by kernel_rfl⟩
theorem allF : AllP (fun f fv => compF Go.Proofs.Tryz.prog (mo.of mol) f = some fv.plain ∧ fv.body.clrOK fv.mus = true) fns := ⟨k6, k12, k15, k19, k21, k29, k31, k33, k34, k36, k37, k38, k39, k40, k41, k43, k44, k46, k68, k73, k74, k81, k91, k92, k93, k94, k95, k96, k97, k98, k99, k100, k101, k102, k103, k104, k105, k106, k107, k108, k110, k141, k156, k157, k158, k161, k164, k165, k166, k167, k168, k169, k170, k171, k172, k173, k174, k175, k176, k177, k178, k179, k205, k206, k208, k212, k213, k214, k215, k216, k217, k218, k221, k222, k223, k224, k225, k245, k246, k247, k248, k251, k252, k253, k254, k255, k256, k257, k277, k278, k279, k280, k281, k282, k292, k293, k294, k297, trivial⟩
theorem allM : AllP (fun f ms => compM Go.Proofs.Tryz.prog (mo.of mol) f = some ms) mrks := ⟨k42, trivial⟩
theorem allP : AllP (fun f g => bodied Go.Proofs.Tryz.prog f = true ∧ ∀ args d, g args = some d → ∀ sto, CallsOK Go.Proofs.Tryz.prog (mo.of mol f) f args sto (d.1, d.2, sto)) prs := ⟨⟨by kernel_rfl, fun _ _ h sto => sort_ok lays190 h sto⟩, ⟨by kernel_rfl, fun _ _ h sto => compact_ok lays194 h sto⟩, trivial⟩
theorem hok (hm : Go.Proofs.Tryz.prog.follows .mixedOrders = true) : HOK Go.Proofs.Tryz.prog (mo.of mol) (vcall T) := vcall_ok (drawOK hm) (fun f ms h => allM.look h) (fun f fv h => allF.look h) (fun f g h => allP.look h)
end Go.Vx.NrZ
