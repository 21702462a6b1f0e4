/-
  What the proofs of functions do.
-/
import Derived.Test.YtdhpbbopmlppfaaGreatCode
import Derived.Test.YtdhpbbopmlppfaaGreatDef
set_option linter.unusedVariables false
set_option linter.unusedSimpArgs false
namespace Go.Vx.CmZ
set_option linter.unusedVariables false
set_option linter.unusedSimpArgs false
set_option maxRecDepth 10000
set_option maxHeartbeats 2000000
attribute [local irreducible] go bk exi got
attribute [push_cast] sx tyd ty rds.eq_1 rds.eq_2 rg.eq_1 rg.eq_2 zs.eq_1 zs.eq_2 go_lpc sI sB sT sL dI dL PV Bool.true_beq Bool.false_beq beq_true beq_false v5 v5_b v7 v7_b v14 zzY v15 zzZ v19 zAd v20 zAe v36 zAr v37 zAs v38 zAt v39 zAu v40 zAv v41 zAw v42 zAx v43 zAy v50 zAF v51 zAG v52 zAH v53 zAI v54 zAJ v55 zAK v56 zAL v57 zAM v58 zAN v82 zBl v83 zBm v84 zBn v85 zBo v86 zBp v87 zBq v88 zBr v89 zBs v90 zBt v91 zBu v92 zBv v93 zBw v94 zBx v100 zwp v101 zwq v102 zwr v103 zws v104 zwt v105 zwu v106 zwv v107 zww v108 zwx v109 zwy v110 zwz v111 zwA v112 zwB v113 zwC v114 zwD v115 zwE v116 zwF v117 zwG v118 zwH v119 zwI v120 zwJ v121 zwK v122 zwL v123 zwM v124 zwN v125 zwO v126 zwP v127 zwQ v128 zwR v129 zwS v130 zwT v142 zxd v143 zxe v144 zxf v145 zxg v146 zxh v147 zxi v148 zxj v149 zxk v150 zxl v151 zxm v152 zxn v153 zxo v154 zxp v155 zxq v156 zxr v157 zxs v160 zxv v161 zxw v162 zxx v163 zxy v165 zxz v167 zxA v168 zxB v169 zxC v170 zxD v171 zxE v172 zxF v173 zxG v174 zxH v175 zxI v177 zxJ v181 zxM v182 zxN v183 zxO v184 zxP v185 zxQ v186 zxR v187 zxS v188 zxT v189 zxU v190 zxV v191 zxW v192 zxX v193 zxY v194 zxZ v195 zya v196 zyb v198 zyc v202 zyd v203 zye v204 zyf v205 zyg v206 zyh
section
variable {α:Type} {K:α→Option Res→Prop} {a b:Option α}
theorem A {x:Option Res} (h:Le K a x:=by
 repeat' (try conv=>arg 3;simp (maxSteps:=999999) only [push_cast,↓reduceIte,seval, *]);first
  | with_reducible refine Le.bool (fun _=>?_) (fun _=>?_)
  | with_reducible refine Le.itq (fun _=>?_) (fun _=>?_)
  | with_reducible refine zCl ?_ ?_
  | with_reducible refine zCm ?_ ?_
  | with_reducible refine zCn fun _=>?_
  | with_reducible refine zCo fun _=>?_
  | with_reducible refine zCq fun _ _=>?_
  | with_reducible refine zCp ?_
  | ((with_reducible intro _ _ hy);first|subst hy|obtain ⟨_,rfl⟩:=hy|((with_reducible refine Le.ret ?_);exact hy))
  | ((with_reducible refine Le.ret ?_);first|exact rfl|exact Pu.mk)
  | refine Le.callI ?_
  | refine Le.dcallI ?_
  | with_reducible refine Le.idx fun _ _ _ _=>?_
  | with_reducible refine Le.idxN fun _ _ _=>?_
  | with_reducible refine Le.idxB fun _ _ _ _=>?_
  | with_reducible refine Le.idxBN fun _ _ _=>?_
  | with_reducible refine Le.sub fun _ _ _ _ _ _=>?_
  | with_reducible refine Le.subL fun _ _ _ _=>?_
  | with_reducible refine Le.subH fun _ _ _ _=>?_
  | with_reducible refine Le.subB fun _ _ _ _ _ _=>?_
  | with_reducible refine Le.subBL fun _ _ _ _=>?_
  | with_reducible refine Le.subBH fun _ _ _ _=>?_
  | with_reducible refine Le.app fun _ _ _=>?_
  | with_reducible refine Le.appB fun _ _ _=>?_
  | with_reducible refine Le.mkz fun _ _ _ _ _ _=>?_
  | with_reducible refine Le.mk0 fun _ _=>?_
  | with_reducible refine Le.chk fun _=>?_
  | with_reducible exact Le.none
  | exact Le.tlI _ (by first|exact rfl|exact go_cong (by simp only [push_cast, *];done)) rfl
  | refine Le.viaI _ (by first|exact rfl|exact go_cong (by simp only [push_cast, *];done)) ?_):Le K a x:=h
theorem G {c c':C} {en:En Res} {k:List Fr} {st:St} (e:c=c') (h:Le K a (go T en c' k st):=by exact A):Le K a (go T en c k st):=G0 e h
theorem GG {c c':C} {en:En Res} {k:List Fr} {st:St} (d:a=b) (e:c=c') (h:Le K b (go T en c' k st):=by exact A):Le K a (go T en c k st):=G1 d e h
theorem E {g:F} {n:Nat} {args:List D} {sto:List (List D)} (e:a=b) (hf:T.fn n=some g:=by rfl) (hp:T.pr n=Option.none:=by rfl) (hm:T.mrk n=Option.none:=by rfl) (hl:args.length=g.np:=by rfl) (h:Le K b (go T (enF g.res g.mus) g.body [] (g.init args sto)):=by exact A):Le K a (zab T n args sto):=E0 e hf hp hm hl h
end
end Go.Vx.CmZ
