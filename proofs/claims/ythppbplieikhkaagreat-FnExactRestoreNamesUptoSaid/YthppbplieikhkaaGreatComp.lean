/-
  The instructions are the program's.
-/
import Derived.Test.YthppbplieikhkaaGreatCode
import Derived.Test.YthppbplieikhkaaGreatVxC
import Derived.Test.YthppbplieikhkaaGreatLay
import Derived.Test.YthppbplieikhkaaGreatLayI
import Derived.Test.YthppbplieikhkaaGreatProg
import Derived.KernelRfl
set_option linter.unusedVariables false
set_option linter.unusedSimpArgs false
namespace Go.Vx.RnZ
set_option maxRecDepth 100000
theorem k4 : zao Go.Proofs.Tryz.prog (mo.of mol) 4 = some v4.plain ∧ v4.body.clrOK v4.mus = true := ⟨by kernel_rfl, by kernel_rfl⟩
theorem k6 : zao Go.Proofs.Tryz.prog (mo.of mol) 6 = some v6.plain ∧ v6.body.clrOK v6.mus = true := ⟨by kernel_rfl, by kernel_rfl⟩
theorem k7 : zao Go.Proofs.Tryz.prog (mo.of mol) 7 = some v7.plain ∧ v7.body.clrOK v7.mus = true := ⟨by kernel_rfl, by kernel_rfl⟩
theorem k8 : zao Go.Proofs.Tryz.prog (mo.of mol) 8 = some v8.plain ∧ v8.body.clrOK v8.mus = true := ⟨by kernel_rfl, by kernel_rfl⟩
theorem k9 : zao Go.Proofs.Tryz.prog (mo.of mol) 9 = some v9.plain ∧ v9.body.clrOK v9.mus = true := ⟨by kernel_rfl, by kernel_rfl⟩
theorem k10 : zao Go.Proofs.Tryz.prog (mo.of mol) 10 = some v10.plain ∧ v10.body.clrOK v10.mus = true := ⟨by kernel_rfl, by kernel_rfl⟩
theorem k12 : zao Go.Proofs.Tryz.prog (mo.of mol) 12 = some v12.plain ∧ v12.body.clrOK v12.mus = true := ⟨by kernel_rfl, by kernel_rfl⟩
theorem k13 : zqf Go.Proofs.Tryz.prog (mo.of mol) 13 = some [(0, .one, 20), (1, .one, 41), (2, .one, 42)] := by kernel_rfl
theorem k14 : zao Go.Proofs.Tryz.prog (mo.of mol) 14 = some v14.plain ∧ v14.body.clrOK v14.mus = true := ⟨by kernel_rfl, by kernel_rfl⟩
theorem k15 : zao Go.Proofs.Tryz.prog (mo.of mol) 15 = some v15.plain ∧ v15.body.clrOK v15.mus = true := ⟨by kernel_rfl, by kernel_rfl⟩
theorem k16 : zao Go.Proofs.Tryz.prog (mo.of mol) 16 = some v16.plain ∧ v16.body.clrOK v16.mus = true := ⟨by kernel_rfl, by kernel_rfl⟩
theorem k17 : zao Go.Proofs.Tryz.prog (mo.of mol) 17 = some v17.plain ∧ v17.body.clrOK v17.mus = true := ⟨by kernel_rfl, by kernel_rfl⟩
theorem k18 : zao Go.Proofs.Tryz.prog (mo.of mol) 18 = some v18.plain ∧ v18.body.clrOK v18.mus = true := ⟨by kernel_rfl, by kernel_rfl⟩
theorem k19 : zao Go.Proofs.Tryz.prog (mo.of mol) 19 = some v19.plain ∧ v19.body.clrOK v19.mus = true := ⟨by kernel_rfl, by kernel_rfl⟩
theorem k20 : zao Go.Proofs.Tryz.prog (mo.of mol) 20 = some v20.plain ∧ v20.body.clrOK v20.mus = true := ⟨by kernel_rfl, by kernel_rfl⟩
theorem k24 : zao Go.Proofs.Tryz.prog (mo.of mol) 24 = some v24.plain ∧ v24.body.clrOK v24.mus = true := ⟨by kernel_rfl, by kernel_rfl⟩
theorem k27 : zao Go.Proofs.Tryz.prog (mo.of mol) 27 = some v27.plain ∧ v27.body.clrOK v27.mus = true := ⟨by kernel_rfl, by kernel_rfl⟩
theorem k28 : zao Go.Proofs.Tryz.prog (mo.of mol) 28 = some v28.plain ∧ v28.body.clrOK v28.mus = true := ⟨by kernel_rfl, by kernel_rfl⟩
theorem k29 : zao Go.Proofs.Tryz.prog (mo.of mol) 29 = some v29.plain ∧ v29.body.clrOK v29.mus = true := ⟨by kernel_rfl, by kernel_rfl⟩
theorem k30 : zao Go.Proofs.Tryz.prog (mo.of mol) 30 = some v30.plain ∧ v30.body.clrOK v30.mus = true := ⟨by kernel_rfl, by kernel_rfl⟩
theorem k31 : zao Go.Proofs.Tryz.prog (mo.of mol) 31 = some v31.plain ∧ v31.body.clrOK v31.mus = true := ⟨by kernel_rfl, by kernel_rfl⟩
theorem k32 : zao Go.Proofs.Tryz.prog (mo.of mol) 32 = some v32.plain ∧ v32.body.clrOK v32.mus = true := ⟨by kernel_rfl, by kernel_rfl⟩
theorem k33 : zao Go.Proofs.Tryz.prog (mo.of mol) 33 = some v33.plain ∧ v33.body.clrOK v33.mus = true := ⟨by kernel_rfl, by kernel_rfl⟩
theorem k34 : zao Go.Proofs.Tryz.prog (mo.of mol) 34 = some v34.plain ∧ v34.body.clrOK v34.mus = true := ⟨by kernel_rfl, by kernel_rfl⟩
theorem k35 : zao Go.Proofs.Tryz.prog (mo.of mol) 35 = some v35.plain ∧ v35.body.clrOK v35.mus = true := ⟨by kernel_rfl, by kernel_rfl⟩
theorem k36 : zao Go.Proofs.Tryz.prog (mo.of mol) 36 = some v36.plain ∧ v36.body.clrOK v36.mus = true := ⟨by kernel_rfl, by kernel_rfl⟩
theorem k37 : zao Go.Proofs.Tryz.prog (mo.of mol) 37 = some v37.plain ∧ v37.body.clrOK v37.mus = true := ⟨by kernel_rfl, by kernel_rfl⟩
theorem k38 : zao Go.Proofs.Tryz.prog (mo.of mol) 38 = some v38.plain ∧ v38.body.clrOK v38.mus = true := ⟨by kernel_rfl, by kernel_rfl⟩
theorem k39 : zao Go.Proofs.Tryz.prog (mo.of mol) 39 = some v39.plain ∧ v39.body.clrOK v39.mus = true := ⟨by kernel_rfl, by kernel_rfl⟩
theorem k40 : zao Go.Proofs.Tryz.prog (mo.of mol) 40 = some v40.plain ∧ v40.body.clrOK v40.mus = true := ⟨by kernel_rfl, by kernel_rfl⟩
theorem k41 : zao Go.Proofs.Tryz.prog (mo.of mol) 41 = some v41.plain ∧ v41.body.clrOK v41.mus = true := ⟨by kernel_rfl, by kernel_rfl⟩
theorem k42 : zao Go.Proofs.Tryz.prog (mo.of mol) 42 = some v42.plain ∧ v42.body.clrOK v42.mus = true := ⟨by kernel_rfl, by kernel_rfl⟩
theorem k43 : zao Go.Proofs.Tryz.prog (mo.of mol) 43 = some v43.plain ∧ v43.body.clrOK v43.mus = true := ⟨by kernel_rfl, by kernel_rfl⟩
theorem k44 : zao Go.Proofs.Tryz.prog (mo.of mol) 44 = some v44.plain ∧ v44.body.clrOK v44.mus = true := ⟨by kernel_rfl, by kernel_rfl⟩
theorem k45 : zao Go.Proofs.Tryz.prog (mo.of mol) 45 = some v45.plain ∧ v45.body.clrOK v45.mus = true := ⟨by kernel_rfl, by kernel_rfl⟩
theorem k46 : zao Go.Proofs.Tryz.prog (mo.of mol) 46 = some v46.plain ∧ v46.body.clrOK v46.mus = true := ⟨by kernel_rfl, by kernel_rfl⟩
theorem k47 : zao Go.Proofs.Tryz.prog (mo.of mol) 47 = some v47.plain ∧ v47.body.clrOK v47.mus = true := ⟨by kernel_rfl, by kernel_rfl⟩
theorem k48 : zao Go.Proofs.Tryz.prog (mo.of mol) 48 = some v48.plain ∧ v48.body.clrOK v48.mus = true := ⟨by kernel_rfl, by kernel_rfl⟩
theorem k49 : zao Go.Proofs.Tryz.prog (mo.of mol) 49 = some v49.plain ∧ v49.body.clrOK v49.mus = true := ⟨by kernel_rfl, by kernel_rfl⟩
theorem k50 : zao Go.Proofs.Tryz.prog (mo.of mol) 50 = some v50.plain ∧ v50.body.clrOK v50.mus = true := ⟨by kernel_rfl, by kernel_rfl⟩
theorem k51 : zao Go.Proofs.Tryz.prog (mo.of mol) 51 = some v51.plain ∧ v51.body.clrOK v51.mus = true := ⟨by kernel_rfl, by kernel_rfl⟩
theorem k59 : zao Go.Proofs.Tryz.prog (mo.of mol) 59 = some v59.plain ∧ v59.body.clrOK v59.mus = true := ⟨by kernel_rfl, by kernel_rfl⟩
theorem k60 : zao Go.Proofs.Tryz.prog (mo.of mol) 60 = some v60.plain ∧ v60.body.clrOK v60.mus = true := ⟨by kernel_rfl, by kernel_rfl⟩
theorem k61 : zao Go.Proofs.Tryz.prog (mo.of mol) 61 = some v61.plain ∧ v61.body.clrOK v61.mus = true := ⟨by kernel_rfl, by kernel_rfl⟩
theorem k62 : zao Go.Proofs.Tryz.prog (mo.of mol) 62 = some v62.plain ∧ v62.body.clrOK v62.mus = true := ⟨by kernel_rfl, by kernel_rfl⟩
theorem k66 : zao Go.Proofs.Tryz.prog (mo.of mol) 66 = some v66.plain ∧ v66.body.clrOK v66.mus = true := ⟨by kernel_rfl, by kernel_rfl⟩
theorem k67 : zao Go.Proofs.Tryz.prog (mo.of mol) 67 = some v67.plain ∧ v67.body.clrOK v67.mus = true := ⟨by kernel_rfl, by kernel_rfl⟩
theorem k68 : zao Go.Proofs.Tryz.prog (mo.of mol) 68 = some v68.plain ∧ v68.body.clrOK v68.mus = true := ⟨by kernel_rfl, by kernel_rfl⟩
theorem k69 : zao Go.Proofs.Tryz.prog (mo.of mol) 69 = some v69.plain ∧ v69.body.clrOK v69.mus = true := ⟨by kernel_rfl, by kernel_rfl⟩
theorem k70 : zao Go.Proofs.Tryz.prog (mo.of mol) 70 = some v70.plain ∧ v70.body.clrOK v70.mus = true := ⟨by kernel_rfl, by kernel_rfl⟩
theorem k71 : zao Go.Proofs.Tryz.prog (mo.of mol) 71 = some v71.plain ∧ v71.body.clrOK v71.mus = true := ⟨by kernel_rfl, by kernel_rfl⟩
theorem k72 : zao Go.Proofs.Tryz.prog (mo.of mol) 72 = some v72.plain ∧ v72.body.clrOK v72.mus = true := ⟨by kernel_rfl, by kernel_rfl⟩
theorem k73 : zao Go.Proofs.Tryz.prog (mo.of mol) 73 = some v73.plain ∧ v73.body.clrOK v73.mus = true := ⟨by kernel_rfl, by kernel_rfl⟩
theorem k74 : zao Go.Proofs.Tryz.prog (mo.of mol) 74 = some v74.plain ∧ v74.body.clrOK v74.mus = true := ⟨by kernel_rfl, by kernel_rfl⟩
theorem k75 : zao Go.Proofs.Tryz.prog (mo.of mol) 75 = some v75.plain ∧ v75.body.clrOK v75.mus = true := ⟨by kernel_rfl, by kernel_rfl⟩
theorem k76 : zao Go.Proofs.Tryz.prog (mo.of mol) 76 = some v76.plain ∧ v76.body.clrOK v76.mus = true := ⟨by kernel_rfl, by kernel_rfl⟩
theorem k77 : zao Go.Proofs.Tryz.prog (mo.of mol) 77 = some v77.plain ∧ v77.body.clrOK v77.mus = true := ⟨by kernel_rfl, by kernel_rfl⟩
theorem k78 : zao Go.Proofs.Tryz.prog (mo.of mol) 78 = some v78.plain ∧ v78.body.clrOK v78.mus = true := ⟨by kernel_rfl, by kernel_rfl⟩
theorem k79 : zao Go.Proofs.Tryz.prog (mo.of mol) 79 = some v79.plain ∧ v79.body.clrOK v79.mus = true := ⟨by kernel_rfl, by kernel_rfl⟩
theorem k80 : zao Go.Proofs.Tryz.prog (mo.of mol) 80 = some v80.plain ∧ v80.body.clrOK v80.mus = true := ⟨by kernel_rfl, by kernel_rfl⟩
theorem k81 : zao Go.Proofs.Tryz.prog (mo.of mol) 81 = some v81.plain ∧ v81.body.clrOK v81.mus = true := ⟨by kernel_rfl, by kernel_rfl⟩
theorem k82 : zao Go.Proofs.Tryz.prog (mo.of mol) 82 = some v82.plain ∧ v82.body.clrOK v82.mus = true := ⟨by kernel_rfl, by kernel_rfl⟩
theorem k83 : zao Go.Proofs.Tryz.prog (mo.of mol) 83 = some v83.plain ∧ v83.body.clrOK v83.mus = true := ⟨by kernel_rfl, by kernel_rfl⟩
theorem k84 : zao Go.Proofs.Tryz.prog (mo.of mol) 84 = some v84.plain ∧ v84.body.clrOK v84.mus = true := ⟨by kernel_rfl, by kernel_rfl⟩
theorem k85 : zao Go.Proofs.Tryz.prog (mo.of mol) 85 = some v85.plain ∧ v85.body.clrOK v85.mus = true := ⟨by kernel_rfl, by kernel_rfl⟩
theorem k86 : zao Go.Proofs.Tryz.prog (mo.of mol) 86 = some v86.plain ∧ v86.body.clrOK v86.mus = true := ⟨by kernel_rfl, by kernel_rfl⟩
theorem k87 : zao Go.Proofs.Tryz.prog (mo.of mol) 87 = some v87.plain ∧ v87.body.clrOK v87.mus = true := ⟨by kernel_rfl, by kernel_rfl⟩
theorem k88 : zao Go.Proofs.Tryz.prog (mo.of mol) 88 = some v88.plain ∧ v88.body.clrOK v88.mus = true := ⟨by kernel_rfl, by kernel_rfl⟩
theorem k89 : zao Go.Proofs.Tryz.prog (mo.of mol) 89 = some v89.plain ∧ v89.body.clrOK v89.mus = true := ⟨by kernel_rfl, by kernel_rfl⟩
theorem k90 : zao Go.Proofs.Tryz.prog (mo.of mol) 90 = some v90.plain ∧ v90.body.clrOK v90.mus = true := ⟨by kernel_rfl, by kernel_rfl⟩
theorem k91 : zao Go.Proofs.Tryz.prog (mo.of mol) 91 = some v91.plain ∧ v91.body.clrOK v91.mus = true := ⟨by kernel_rfl, by kernel_rfl⟩
theorem k92 : zao Go.Proofs.Tryz.prog (mo.of mol) 92 = some v92.plain ∧ v92.body.clrOK v92.mus = true := ⟨by kernel_rfl, by kernel_rfl⟩
theorem k93 : zao Go.Proofs.Tryz.prog (mo.of mol) 93 = some v93.plain ∧ v93.body.clrOK v93.mus = true := ⟨by kernel_rfl, by kernel_rfl⟩
theorem k95 : zao Go.Proofs.Tryz.prog (mo.of mol) 95 = some v95.plain ∧ v95.body.clrOK v95.mus = true := ⟨by kernel_rfl, by kernel_rfl⟩
theorem k96 : zao Go.Proofs.Tryz.prog (mo.of mol) 96 = some v96.plain ∧ v96.body.clrOK v96.mus = true := ⟨by kernel_rfl, by kernel_rfl⟩
theorem k97 : zao Go.Proofs.Tryz.prog (mo.of mol) 97 = some v97.plain ∧ v97.body.clrOK v97.mus = true := ⟨by kernel_rfl, by kernel_rfl⟩
theorem k98 : zao Go.Proofs.Tryz.prog (mo.of mol) 98 = some v98.plain ∧ v98.body.clrOK v98.mus = true := ⟨by kernel_rfl, by kernel_rfl⟩
theorem k99 : zao Go.Proofs.Tryz.prog (mo.of mol) 99 = some v99.plain ∧ v99.body.clrOK v99.mus = true := ⟨by kernel_rfl, by kernel_rfl⟩
theorem k100 : zao Go.Proofs.Tryz.prog (mo.of mol) 100 = some v100.plain ∧ v100.body.clrOK v100.mus = true := ⟨by kernel_rfl, by kernel_rfl⟩
theorem k101 : zao Go.Proofs.Tryz.prog (mo.of mol) 101 = some v101.plain ∧ v101.body.clrOK v101.mus = true := ⟨by kernel_rfl, by kernel_rfl⟩
theorem k102 : zao Go.Proofs.Tryz.prog (mo.of mol) 102 = some v102.plain ∧ v102.body.clrOK v102.mus = true := ⟨by kernel_rfl, by kernel_rfl⟩
theorem k112 : zao Go.Proofs.Tryz.prog (mo.of mol) 112 = some v112.plain ∧ v112.body.clrOK v112.mus = true := ⟨by kernel_rfl, by kernel_rfl⟩
theorem k113 : zao Go.Proofs.Tryz.prog (mo.of mol) 113 = some v113.plain ∧ v113.body.clrOK v113.mus = true := ⟨by kernel_rfl, by kernel_rfl⟩
theorem k114 : zao Go.Proofs.Tryz.prog (mo.of mol) 114 = some v114.plain ∧ v114.body.clrOK v114.mus = true := ⟨by kernel_rfl, by kernel_rfl⟩
theorem k115 : zao Go.Proofs.Tryz.prog (mo.of mol) 115 = some v115.plain ∧ v115.body.clrOK v115.mus = true := ⟨by kernel_rfl, by kernel_rfl⟩
theorem k116 : zao Go.Proofs.Tryz.prog (mo.of mol) 116 = some v116.plain ∧ v116.body.clrOK v116.mus = true := ⟨by kernel_rfl, by kernel_rfl⟩
theorem k117 : zao Go.Proofs.Tryz.prog (mo.of mol) 117 = some v117.plain ∧ v117.body.clrOK v117.mus = true := ⟨by kernel_rfl, by kernel_rfl⟩
theorem k118 : zao Go.Proofs.Tryz.prog (mo.of mol) 118 = some v118.plain ∧ v118.body.clrOK v118.mus = true := ⟨by kernel_rfl, by kernel_rfl⟩
theorem k119 : zao Go.Proofs.Tryz.prog (mo.of mol) 119 = some v119.plain ∧ v119.body.clrOK v119.mus = true := ⟨by kernel_rfl, by kernel_rfl⟩
theorem k120 : zao Go.Proofs.Tryz.prog (mo.of mol) 120 = some v120.plain ∧ v120.body.clrOK v120.mus = true := ⟨by kernel_rfl, by kernel_rfl⟩
theorem k121 : zao Go.Proofs.Tryz.prog (mo.of mol) 121 = some v121.plain ∧ v121.body.clrOK v121.mus = true := ⟨by kernel_rfl, by kernel_rfl⟩
theorem k122 : zao Go.Proofs.Tryz.prog (mo.of mol) 122 = some v122.plain ∧ v122.body.clrOK v122.mus = true := ⟨by kernel_rfl, by kernel_rfl⟩
theorem k123 : zao Go.Proofs.Tryz.prog (mo.of mol) 123 = some v123.plain ∧ v123.body.clrOK v123.mus = true := ⟨by kernel_rfl, by kernel_rfl⟩
theorem k124 : zao Go.Proofs.Tryz.prog (mo.of mol) 124 = some v124.plain ∧ v124.body.clrOK v124.mus = true := ⟨by kernel_rfl, by kernel_rfl⟩
theorem k126 : zao Go.Proofs.Tryz.prog (mo.of mol) 126 = some v126.plain ∧ v126.body.clrOK v126.mus = true := ⟨by kernel_rfl, by kernel_rfl⟩
theorem k134 : zao Go.Proofs.Tryz.prog (mo.of mol) 134 = some v134.plain ∧ v134.body.clrOK v134.mus = true := ⟨by kernel_rfl, by kernel_rfl⟩
theorem k135 : zao Go.Proofs.Tryz.prog (mo.of mol) 135 = some v135.plain ∧ v135.body.clrOK v135.mus = true := ⟨by kernel_rfl, by kernel_rfl⟩
theorem k136 : zao Go.Proofs.Tryz.prog (mo.of mol) 136 = some v136.plain ∧ v136.body.clrOK v136.mus = true := ⟨by kernel_rfl, by kernel_rfl⟩
theorem k139 : zao Go.Proofs.Tryz.prog (mo.of mol) 139 = some v139.plain ∧ v139.body.clrOK v139.mus = true := ⟨by kernel_rfl, by kernel_rfl⟩
theorem allF : AllP (fun f fv => zao Go.Proofs.Tryz.prog (mo.of mol) f = some fv.plain ∧ fv.body.clrOK fv.mus = true) fns := ⟨k4, k6, k7, k8, k9, k10, k12, k14, k15, k16, k17, k18, k19, k20, k24, k27, k28, k29, k30, k31, k32, k33, k34, k35, k36, k37, k38, k39, k40, k41, k42, k43, k44, k45, k46, k47, k48, k49, k50, k51, k59, k60, k61, k62, k66, k67, k68, k69, k70, k71, k72, k73, k74, k75, k76, k77, k78, k79, k80, k81, k82, k83, k84, k85, k86, k87, k88, k89, k90, k91, k92, k93, k95, k96, k97, k98, k99, k100, k101, k102, k112, k113, k114, k115, k116, k117, k118, k119, k120, k121, k122, k123, k124, k126, k134, k135, k136, k139, trivial⟩
theorem allM : AllP (fun f ms => zqf Go.Proofs.Tryz.prog (mo.of mol) f = some ms) mrks := ⟨k13, trivial⟩
theorem allP : AllP (fun f g => zdY Go.Proofs.Tryz.prog f = true ∧ ∀ args d, g args = some d → ∀ sto, zft Go.Proofs.Tryz.prog (mo.of mol f) f args sto (d.1, d.2, sto)) prs := ⟨⟨by kernel_rfl, fun _ _ h sto => zrD zya rfl (by decide) (by decide) h sto⟩, ⟨by kernel_rfl, fun _ _ h sto => zrC zxB rfl (by decide) h sto⟩, ⟨by kernel_rfl, fun _ _ h sto => zuD zvc h sto⟩, ⟨by kernel_rfl, fun _ _ h sto => zqp zvd h sto⟩, trivial⟩
theorem hok (hm : Go.Proofs.Tryz.prog.follows .mixedOrders = true) : HOK Go.Proofs.Tryz.prog (mo.of mol) (zab T) := zsI (zvQ hm) (fun f ms h => allM.look h) (fun f fv h => allF.look h) (fun f g h => allP.look h)
end Go.Vx.RnZ
