/-
  The instructions are the program's.
-/
import Derived.Test.YthppbplieikhkaaGreatDoorCode
import Derived.Test.YthppbplieikhkaaGreatDoorVxC
import Derived.Test.YthppbplieikhkaaGreatDoorLay
import Derived.Test.YthppbplieikhkaaGreatDoorLayI
import Derived.Test.YthppbplieikhkaaGreatDoorProg
import Derived.KernelRfl
set_option linter.unusedVariables false
set_option linter.unusedSimpArgs false
namespace Go.Vx.DfZ
set_option maxRecDepth 100000
theorem k4 : zal Go.Proofs.Tryz.prog (mo.of mol) 4 = some v4.plain ∧ v4.body.clrOK v4.mus = true := ⟨by kernel_rfl, by kernel_rfl⟩
theorem k6 : zal Go.Proofs.Tryz.prog (mo.of mol) 6 = some v6.plain ∧ v6.body.clrOK v6.mus = true := ⟨by kernel_rfl, by kernel_rfl⟩
theorem k8 : zal Go.Proofs.Tryz.prog (mo.of mol) 8 = some v8.plain ∧ v8.body.clrOK v8.mus = true := ⟨by kernel_rfl, by kernel_rfl⟩
theorem k10 : zal Go.Proofs.Tryz.prog (mo.of mol) 10 = some v10.plain ∧ v10.body.clrOK v10.mus = true := ⟨by kernel_rfl, by kernel_rfl⟩
theorem k11 : zrl Go.Proofs.Tryz.prog (mo.of mol) 11 = some [(0, .one, 36), (1, .one, 37), (2, .one, 38)] := by kernel_rfl
theorem k12 : zal Go.Proofs.Tryz.prog (mo.of mol) 12 = some v12.plain ∧ v12.body.clrOK v12.mus = true := ⟨by kernel_rfl, by kernel_rfl⟩
theorem k13 : zal Go.Proofs.Tryz.prog (mo.of mol) 13 = some v13.plain ∧ v13.body.clrOK v13.mus = true := ⟨by kernel_rfl, by kernel_rfl⟩
theorem k14 : zal Go.Proofs.Tryz.prog (mo.of mol) 14 = some v14.plain ∧ v14.body.clrOK v14.mus = true := ⟨by kernel_rfl, by kernel_rfl⟩
theorem k18 : zal Go.Proofs.Tryz.prog (mo.of mol) 18 = some v18.plain ∧ v18.body.clrOK v18.mus = true := ⟨by kernel_rfl, by kernel_rfl⟩
theorem k21 : zal Go.Proofs.Tryz.prog (mo.of mol) 21 = some v21.plain ∧ v21.body.clrOK v21.mus = true := ⟨by kernel_rfl, by kernel_rfl⟩
theorem k22 : zal Go.Proofs.Tryz.prog (mo.of mol) 22 = some v22.plain ∧ v22.body.clrOK v22.mus = true := ⟨by kernel_rfl, by kernel_rfl⟩
theorem k23 : zal Go.Proofs.Tryz.prog (mo.of mol) 23 = some v23.plain ∧ v23.body.clrOK v23.mus = true := ⟨by kernel_rfl, by kernel_rfl⟩
theorem k24 : zal Go.Proofs.Tryz.prog (mo.of mol) 24 = some v24.plain ∧ v24.body.clrOK v24.mus = true := ⟨by kernel_rfl, by kernel_rfl⟩
theorem k25 : zal Go.Proofs.Tryz.prog (mo.of mol) 25 = some v25.plain ∧ v25.body.clrOK v25.mus = true := ⟨by kernel_rfl, by kernel_rfl⟩
theorem k26 : zal Go.Proofs.Tryz.prog (mo.of mol) 26 = some v26.plain ∧ v26.body.clrOK v26.mus = true := ⟨by kernel_rfl, by kernel_rfl⟩
theorem k27 : zal Go.Proofs.Tryz.prog (mo.of mol) 27 = some v27.plain ∧ v27.body.clrOK v27.mus = true := ⟨by kernel_rfl, by kernel_rfl⟩
theorem k28 : zal Go.Proofs.Tryz.prog (mo.of mol) 28 = some v28.plain ∧ v28.body.clrOK v28.mus = true := ⟨by kernel_rfl, by kernel_rfl⟩
theorem k29 : zal Go.Proofs.Tryz.prog (mo.of mol) 29 = some v29.plain ∧ v29.body.clrOK v29.mus = true := ⟨by kernel_rfl, by kernel_rfl⟩
theorem k30 : zal Go.Proofs.Tryz.prog (mo.of mol) 30 = some v30.plain ∧ v30.body.clrOK v30.mus = true := ⟨by kernel_rfl, by kernel_rfl⟩
theorem k31 : zal Go.Proofs.Tryz.prog (mo.of mol) 31 = some v31.plain ∧ v31.body.clrOK v31.mus = true := ⟨by kernel_rfl, by kernel_rfl⟩
theorem k33 : zal Go.Proofs.Tryz.prog (mo.of mol) 33 = some v33.plain ∧ v33.body.clrOK v33.mus = true := ⟨by kernel_rfl, by kernel_rfl⟩
theorem k34 : zal Go.Proofs.Tryz.prog (mo.of mol) 34 = some v34.plain ∧ v34.body.clrOK v34.mus = true := ⟨by kernel_rfl, by kernel_rfl⟩
theorem k35 : zal Go.Proofs.Tryz.prog (mo.of mol) 35 = some v35.plain ∧ v35.body.clrOK v35.mus = true := ⟨by kernel_rfl, by kernel_rfl⟩
theorem k36 : zal Go.Proofs.Tryz.prog (mo.of mol) 36 = some v36.plain ∧ v36.body.clrOK v36.mus = true := ⟨by kernel_rfl, by kernel_rfl⟩
theorem k37 : zal Go.Proofs.Tryz.prog (mo.of mol) 37 = some v37.plain ∧ v37.body.clrOK v37.mus = true := ⟨by kernel_rfl, by kernel_rfl⟩
theorem k38 : zal Go.Proofs.Tryz.prog (mo.of mol) 38 = some v38.plain ∧ v38.body.clrOK v38.mus = true := ⟨by kernel_rfl, by kernel_rfl⟩
theorem k39 : zal Go.Proofs.Tryz.prog (mo.of mol) 39 = some v39.plain ∧ v39.body.clrOK v39.mus = true := ⟨by kernel_rfl, by kernel_rfl⟩
theorem k40 : zal Go.Proofs.Tryz.prog (mo.of mol) 40 = some v40.plain ∧ v40.body.clrOK v40.mus = true := ⟨by kernel_rfl, by kernel_rfl⟩
theorem k41 : zal Go.Proofs.Tryz.prog (mo.of mol) 41 = some v41.plain ∧ v41.body.clrOK v41.mus = true := ⟨by kernel_rfl, by kernel_rfl⟩
theorem k42 : zal Go.Proofs.Tryz.prog (mo.of mol) 42 = some v42.plain ∧ v42.body.clrOK v42.mus = true := ⟨by kernel_rfl, by kernel_rfl⟩
theorem k43 : zal Go.Proofs.Tryz.prog (mo.of mol) 43 = some v43.plain ∧ v43.body.clrOK v43.mus = true := ⟨by kernel_rfl, by kernel_rfl⟩
theorem k44 : zal Go.Proofs.Tryz.prog (mo.of mol) 44 = some v44.plain ∧ v44.body.clrOK v44.mus = true := ⟨by kernel_rfl, by kernel_rfl⟩
theorem k45 : zal Go.Proofs.Tryz.prog (mo.of mol) 45 = some v45.plain ∧ v45.body.clrOK v45.mus = true := ⟨by kernel_rfl, by kernel_rfl⟩
theorem k54 : zal Go.Proofs.Tryz.prog (mo.of mol) 54 = some v54.plain ∧ v54.body.clrOK v54.mus = true := ⟨by kernel_rfl, by kernel_rfl⟩
theorem k55 : zal Go.Proofs.Tryz.prog (mo.of mol) 55 = some v55.plain ∧ v55.body.clrOK v55.mus = true := ⟨by kernel_rfl, by kernel_rfl⟩
theorem k57 : zal Go.Proofs.Tryz.prog (mo.of mol) 57 = some v57.plain ∧ v57.body.clrOK v57.mus = true := ⟨by kernel_rfl, by kernel_rfl⟩
theorem k58 : zal Go.Proofs.Tryz.prog (mo.of mol) 58 = some v58.plain ∧ v58.body.clrOK v58.mus = true := ⟨by kernel_rfl, by kernel_rfl⟩
theorem k59 : zal Go.Proofs.Tryz.prog (mo.of mol) 59 = some v59.plain ∧ v59.body.clrOK v59.mus = true := ⟨by kernel_rfl, by kernel_rfl⟩
theorem k60 : zal Go.Proofs.Tryz.prog (mo.of mol) 60 = some v60.plain ∧ v60.body.clrOK v60.mus = true := ⟨by kernel_rfl, by kernel_rfl⟩
theorem k61 : zal Go.Proofs.Tryz.prog (mo.of mol) 61 = some v61.plain ∧ v61.body.clrOK v61.mus = true := ⟨by kernel_rfl, by kernel_rfl⟩
theorem k62 : zal Go.Proofs.Tryz.prog (mo.of mol) 62 = some v62.plain ∧ v62.body.clrOK v62.mus = true := ⟨by kernel_rfl, by kernel_rfl⟩
theorem k63 : zal Go.Proofs.Tryz.prog (mo.of mol) 63 = some v63.plain ∧ v63.body.clrOK v63.mus = true := ⟨by kernel_rfl, by kernel_rfl⟩
theorem k64 : zal Go.Proofs.Tryz.prog (mo.of mol) 64 = some v64.plain ∧ v64.body.clrOK v64.mus = true := ⟨by kernel_rfl, by kernel_rfl⟩
theorem k65 : zal Go.Proofs.Tryz.prog (mo.of mol) 65 = some v65.plain ∧ v65.body.clrOK v65.mus = true := ⟨by kernel_rfl, by kernel_rfl⟩
theorem k66 : zal Go.Proofs.Tryz.prog (mo.of mol) 66 = some v66.plain ∧ v66.body.clrOK v66.mus = true := ⟨by kernel_rfl, by kernel_rfl⟩
theorem k67 : zal Go.Proofs.Tryz.prog (mo.of mol) 67 = some v67.plain ∧ v67.body.clrOK v67.mus = true := ⟨by kernel_rfl, by kernel_rfl⟩
theorem k68 : zal Go.Proofs.Tryz.prog (mo.of mol) 68 = some v68.plain ∧ v68.body.clrOK v68.mus = true := ⟨by kernel_rfl, by kernel_rfl⟩
theorem k69 : zal Go.Proofs.Tryz.prog (mo.of mol) 69 = some v69.plain ∧ v69.body.clrOK v69.mus = true := ⟨by kernel_rfl, by kernel_rfl⟩
theorem k70 : zal Go.Proofs.Tryz.prog (mo.of mol) 70 = some v70.plain ∧ v70.body.clrOK v70.mus = true := ⟨by kernel_rfl, by kernel_rfl⟩
theorem k71 : zal Go.Proofs.Tryz.prog (mo.of mol) 71 = some v71.plain ∧ v71.body.clrOK v71.mus = true := ⟨by kernel_rfl, by kernel_rfl⟩
theorem k72 : zal Go.Proofs.Tryz.prog (mo.of mol) 72 = some v72.plain ∧ v72.body.clrOK v72.mus = true := ⟨by kernel_rfl, by kernel_rfl⟩
theorem k73 : zal Go.Proofs.Tryz.prog (mo.of mol) 73 = some v73.plain ∧ v73.body.clrOK v73.mus = true := ⟨by kernel_rfl, by kernel_rfl⟩
theorem k74 : zal Go.Proofs.Tryz.prog (mo.of mol) 74 = some v74.plain ∧ v74.body.clrOK v74.mus = true := ⟨by kernel_rfl, by kernel_rfl⟩
theorem k75 : zal Go.Proofs.Tryz.prog (mo.of mol) 75 = some v75.plain ∧ v75.body.clrOK v75.mus = true := ⟨by kernel_rfl, by kernel_rfl⟩
theorem k76 : zal Go.Proofs.Tryz.prog (mo.of mol) 76 = some v76.plain ∧ v76.body.clrOK v76.mus = true := ⟨by kernel_rfl, by kernel_rfl⟩
theorem k77 : zal Go.Proofs.Tryz.prog (mo.of mol) 77 = some v77.plain ∧ v77.body.clrOK v77.mus = true := ⟨by kernel_rfl, by kernel_rfl⟩
theorem k78 : zal Go.Proofs.Tryz.prog (mo.of mol) 78 = some v78.plain ∧ v78.body.clrOK v78.mus = true := ⟨by kernel_rfl, by kernel_rfl⟩
theorem k79 : zal Go.Proofs.Tryz.prog (mo.of mol) 79 = some v79.plain ∧ v79.body.clrOK v79.mus = true := ⟨by kernel_rfl, by kernel_rfl⟩
theorem k80 : zal Go.Proofs.Tryz.prog (mo.of mol) 80 = some v80.plain ∧ v80.body.clrOK v80.mus = true := ⟨by kernel_rfl, by kernel_rfl⟩
theorem k81 : zal Go.Proofs.Tryz.prog (mo.of mol) 81 = some v81.plain ∧ v81.body.clrOK v81.mus = true := ⟨by kernel_rfl, by kernel_rfl⟩
theorem k82 : zal Go.Proofs.Tryz.prog (mo.of mol) 82 = some v82.plain ∧ v82.body.clrOK v82.mus = true := ⟨by kernel_rfl, by kernel_rfl⟩
theorem k84 : zal Go.Proofs.Tryz.prog (mo.of mol) 84 = some v84.plain ∧ v84.body.clrOK v84.mus = true := ⟨by kernel_rfl, by kernel_rfl⟩
theorem k85 : zal Go.Proofs.Tryz.prog (mo.of mol) 85 = some v85.plain ∧ v85.body.clrOK v85.mus = true := ⟨by kernel_rfl, by kernel_rfl⟩
theorem k86 : zal Go.Proofs.Tryz.prog (mo.of mol) 86 = some v86.plain ∧ v86.body.clrOK v86.mus = true := ⟨by kernel_rfl, by kernel_rfl⟩
theorem k87 : zal Go.Proofs.Tryz.prog (mo.of mol) 87 = some v87.plain ∧ v87.body.clrOK v87.mus = true := ⟨by kernel_rfl, by kernel_rfl⟩
theorem k88 : zal Go.Proofs.Tryz.prog (mo.of mol) 88 = some v88.plain ∧ v88.body.clrOK v88.mus = true := ⟨by kernel_rfl, by kernel_rfl⟩
theorem k89 : zal Go.Proofs.Tryz.prog (mo.of mol) 89 = some v89.plain ∧ v89.body.clrOK v89.mus = true := ⟨by kernel_rfl, by kernel_rfl⟩
theorem k90 : zal Go.Proofs.Tryz.prog (mo.of mol) 90 = some v90.plain ∧ v90.body.clrOK v90.mus = true := ⟨by kernel_rfl, by kernel_rfl⟩
theorem k91 : zal Go.Proofs.Tryz.prog (mo.of mol) 91 = some v91.plain ∧ v91.body.clrOK v91.mus = true := ⟨by kernel_rfl, by kernel_rfl⟩
theorem k92 : zal Go.Proofs.Tryz.prog (mo.of mol) 92 = some v92.plain ∧ v92.body.clrOK v92.mus = true := ⟨by kernel_rfl, by kernel_rfl⟩
theorem k93 : zal Go.Proofs.Tryz.prog (mo.of mol) 93 = some v93.plain ∧ v93.body.clrOK v93.mus = true := ⟨by kernel_rfl, by kernel_rfl⟩
theorem k94 : zal Go.Proofs.Tryz.prog (mo.of mol) 94 = some v94.plain ∧ v94.body.clrOK v94.mus = true := ⟨by kernel_rfl, by kernel_rfl⟩
theorem k102 : zal Go.Proofs.Tryz.prog (mo.of mol) 102 = some v102.plain ∧ v102.body.clrOK v102.mus = true := ⟨by kernel_rfl, by kernel_rfl⟩
theorem k103 : zal Go.Proofs.Tryz.prog (mo.of mol) 103 = some v103.plain ∧ v103.body.clrOK v103.mus = true := ⟨by kernel_rfl, by kernel_rfl⟩
theorem k105 : zal Go.Proofs.Tryz.prog (mo.of mol) 105 = some v105.plain ∧ v105.body.clrOK v105.mus = true := ⟨by kernel_rfl, by kernel_rfl⟩
theorem k106 : zal Go.Proofs.Tryz.prog (mo.of mol) 106 = some v106.plain ∧ v106.body.clrOK v106.mus = true := ⟨by kernel_rfl, by kernel_rfl⟩
theorem k107 : zal Go.Proofs.Tryz.prog (mo.of mol) 107 = some v107.plain ∧ v107.body.clrOK v107.mus = true := ⟨by kernel_rfl, by kernel_rfl⟩
theorem k108 : zal Go.Proofs.Tryz.prog (mo.of mol) 108 = some v108.plain ∧ v108.body.clrOK v108.mus = true := ⟨by kernel_rfl, by kernel_rfl⟩
theorem k109 : zal Go.Proofs.Tryz.prog (mo.of mol) 109 = some v109.plain ∧ v109.body.clrOK v109.mus = true := ⟨by kernel_rfl, by kernel_rfl⟩
theorem k110 : zal Go.Proofs.Tryz.prog (mo.of mol) 110 = some v110.plain ∧ v110.body.clrOK v110.mus = true := ⟨by kernel_rfl, by kernel_rfl⟩
theorem k111 : zal Go.Proofs.Tryz.prog (mo.of mol) 111 = some v111.plain ∧ v111.body.clrOK v111.mus = true := ⟨by kernel_rfl, by kernel_rfl⟩
theorem k112 : zal Go.Proofs.Tryz.prog (mo.of mol) 112 = some v112.plain ∧ v112.body.clrOK v112.mus = true := ⟨by kernel_rfl, by kernel_rfl⟩
theorem k113 : zal Go.Proofs.Tryz.prog (mo.of mol) 113 = some v113.plain ∧ v113.body.clrOK v113.mus = true := ⟨by kernel_rfl, by kernel_rfl⟩
theorem k114 : zal Go.Proofs.Tryz.prog (mo.of mol) 114 = some v114.plain ∧ v114.body.clrOK v114.mus = true := ⟨by kernel_rfl, by kernel_rfl⟩
theorem k115 : zal Go.Proofs.Tryz.prog (mo.of mol) 115 = some v115.plain ∧ v115.body.clrOK v115.mus = true := ⟨by kernel_rfl, by kernel_rfl⟩
theorem k116 : zal Go.Proofs.Tryz.prog (mo.of mol) 116 = some v116.plain ∧ v116.body.clrOK v116.mus = true := ⟨by kernel_rfl, by kernel_rfl⟩
theorem k117 : zal Go.Proofs.Tryz.prog (mo.of mol) 117 = some v117.plain ∧ v117.body.clrOK v117.mus = true := ⟨by kernel_rfl, by kernel_rfl⟩
theorem k120 : zal Go.Proofs.Tryz.prog (mo.of mol) 120 = some v120.plain ∧ v120.body.clrOK v120.mus = true := ⟨by kernel_rfl, by kernel_rfl⟩
theorem k121 : zal Go.Proofs.Tryz.prog (mo.of mol) 121 = some v121.plain ∧ v121.body.clrOK v121.mus = true := ⟨by kernel_rfl, by kernel_rfl⟩
theorem k122 : zal Go.Proofs.Tryz.prog (mo.of mol) 122 = some v122.plain ∧ v122.body.clrOK v122.mus = true := ⟨by kernel_rfl, by kernel_rfl⟩
theorem k123 : zal Go.Proofs.Tryz.prog (mo.of mol) 123 = some v123.plain ∧ v123.body.clrOK v123.mus = true := ⟨by kernel_rfl, by kernel_rfl⟩
theorem k124 : zal Go.Proofs.Tryz.prog (mo.of mol) 124 = some v124.plain ∧ v124.body.clrOK v124.mus = true := ⟨by kernel_rfl, by kernel_rfl⟩
theorem k125 : zal Go.Proofs.Tryz.prog (mo.of mol) 125 = some v125.plain ∧ v125.body.clrOK v125.mus = true := ⟨by kernel_rfl, by kernel_rfl⟩
theorem k133 : zal Go.Proofs.Tryz.prog (mo.of mol) 133 = some v133.plain ∧ v133.body.clrOK v133.mus = true := ⟨by kernel_rfl, by kernel_rfl⟩
theorem k134 : zal Go.Proofs.Tryz.prog (mo.of mol) 134 = some v134.plain ∧ v134.body.clrOK v134.mus = true := ⟨by kernel_rfl, by kernel_rfl⟩
theorem k135 : zal Go.Proofs.Tryz.prog (mo.of mol) 135 = some v135.plain ∧ v135.body.clrOK v135.mus = true := ⟨by kernel_rfl, by kernel_rfl⟩
theorem k138 : zal Go.Proofs.Tryz.prog (mo.of mol) 138 = some v138.plain ∧ v138.body.clrOK v138.mus = true := ⟨by kernel_rfl, by kernel_rfl⟩
theorem k139 : zal Go.Proofs.Tryz.prog (mo.of mol) 139 = some v139.plain ∧ v139.body.clrOK v139.mus = true := ⟨by kernel_rfl, by kernel_rfl⟩
theorem k140 : zal Go.Proofs.Tryz.prog (mo.of mol) 140 = some v140.plain ∧ v140.body.clrOK v140.mus = true := ⟨by kernel_rfl, by kernel_rfl⟩
theorem k141 : zal Go.Proofs.Tryz.prog (mo.of mol) 141 = some v141.plain ∧ v141.body.clrOK v141.mus = true := ⟨by kernel_rfl, by kernel_rfl⟩
theorem k144 : zal Go.Proofs.Tryz.prog (mo.of mol) 144 = some v144.plain ∧ v144.body.clrOK v144.mus = true := ⟨by kernel_rfl, by kernel_rfl⟩
theorem k153 : zal Go.Proofs.Tryz.prog (mo.of mol) 153 = some v153.plain ∧ v153.body.clrOK v153.mus = true := ⟨by kernel_rfl, by kernel_rfl⟩
theorem k154 : zal Go.Proofs.Tryz.prog (mo.of mol) 154 = some v154.plain ∧ v154.body.clrOK v154.mus = true := ⟨by kernel_rfl, by kernel_rfl⟩
theorem allF : AllP (fun f fv => zal Go.Proofs.Tryz.prog (mo.of mol) f = some fv.plain ∧ fv.body.clrOK fv.mus = true) fns := ⟨k4, k6, k8, k10, k12, k13, k14, k18, k21, k22, k23, k24, k25, k26, k27, k28, k29, k30, k31, k33, k34, k35, k36, k37, k38, k39, k40, k41, k42, k43, k44, k45, k54, k55, k57, k58, k59, k60, k61, k62, k63, k64, k65, k66, k67, k68, k69, k70, k71, k72, k73, k74, k75, k76, k77, k78, k79, k80, k81, k82, k84, k85, k86, k87, k88, k89, k90, k91, k92, k93, k94, k102, k103, k105, k106, k107, k108, k109, k110, k111, k112, k113, k114, k115, k116, k117, k120, k121, k122, k123, k124, k125, k133, k134, k135, k138, k139, k140, k141, k144, k153, k154, trivial⟩
theorem allM : AllP (fun f ms => zrl Go.Proofs.Tryz.prog (mo.of mol) f = some ms) mrks := ⟨k11, trivial⟩
theorem allP : AllP (fun f g => zey Go.Proofs.Tryz.prog f = true ∧ ∀ args d, g args = some d → ∀ sto, zdc Go.Proofs.Tryz.prog (mo.of mol f) f args sto (d.1, d.2, sto)) prs := ⟨⟨by kernel_rfl, fun _ _ h sto => zsO zzs rfl (by decide) h sto⟩, ⟨by kernel_rfl, fun _ _ h sto => zwu zwR h sto⟩, ⟨by kernel_rfl, fun _ _ h sto => zrv zwS h sto⟩, ⟨by kernel_rfl, fun _ _ h sto => zuD zwU (by kernel_rfl) h sto⟩, ⟨by kernel_rfl, fun _ _ h sto => zsQ zwT h sto⟩, trivial⟩
theorem hok (hm : Go.Proofs.Tryz.prog.follows .mixedOrders = true) : HOK Go.Proofs.Tryz.prog (mo.of mol) (zab T) := zui (zxH hm) (fun f ms h => allM.look h) (fun f fv h => allF.look h) (fun f g h => allP.look h)
end Go.Vx.DfZ
