/-
  What the proofs of functions do.
-/
import Derived.Test.YtapepbhnleekbaaGreatDoorCode
import Derived.Test.YtapepbhnleekbaaGreatDoorDef
set_option linter.unusedVariables false
set_option linter.unusedSimpArgs false
namespace Go.Vx.WvZ
set_option maxRecDepth 10000
set_option maxHeartbeats 2000000
attribute [local irreducible] go bk exi got
attribute [push_cast] sx tyd ty rds.eq_1 rds.eq_2 rg.eq_1 rg.eq_2 zs.eq_1 zs.eq_2 go_lpc sI sB sT sL dI dL PV Bool.true_beq Bool.false_beq beq_true beq_false v7 v7_b v10 zAE v21 zAK v22 zAL v23 zAM v24 zAN v25 zAO v29 zAS v30 zAT v31 zAU v32 zAV v33 zAW v53 zBj v54 zBk v55 zBl v56 zBm v57 zBn v58 zBo v59 zBp v60 zBq v61 zBr v62 zBs v63 zBt v64 zBu v65 zBv v66 zBw v73 zBD v74 zBE v75 zBF v76 zBG v77 zBH v78 zBI v79 zBJ v80 zBK v81 zBL v82 zBM v83 zBN v84 zBO v85 zBP v86 zBQ v87 zBR v88 zBS v117 zwZ v118 zxa v119 zxb v120 zxc v121 zxd v122 zxe v123 zxf v124 zxg v125 zxh v126 zxi v127 zxj v128 zxk v129 zxl v130 zxm v131 zxn v132 zxo v133 zxp v139 zxv v140 zxw v141 zxx v142 zxy v143 zxz v144 zxA v145 zxB v146 zxC v147 zxD v148 zxE v149 zxF v150 zxG v151 zxH v152 zxI v153 zxJ v154 zxK v155 zxL v156 zxM v157 zxN v158 zxO v159 zxP v160 zxQ v161 zxR v162 zxS v163 zxT v164 zxU v165 zxV v166 zxW v167 zxX v168 zxY v169 zxZ v170 zya v171 zyb v172 zyc v173 zyd v176 zye v195 zym v200 zyo v201 zyp v202 zyq v203 zyr v204 zys v205 zyt v206 zyu v207 zyv v208 zyw v210 zyy v211 zyz v214 zyA v216 zyB v217 zyC v218 zyD v220 zyE v221 zyF v222 zyG v223 zyH v231 zyK v233 zyL v234 zyM v235 zyN v236 zyO v242 zyP
section
variable {α:Type} {K:α->Option Res->Prop} {a b:Option α}
theorem A {x:Option Res} (h:Le K a x:=by
 repeat' (try conv=>arg 3;simp (maxSteps:=999999) only [push_cast,↓reduceIte,seval, *]);first
  | with_reducible refine Le.bool (fun _=>?_) (fun _=>?_)
  | with_reducible refine Le.itq (fun _=>?_) (fun _=>?_)
  | with_reducible refine zCK ?_ ?_
  | with_reducible refine zCL ?_ ?_
  | with_reducible refine zCM fun _=>?_
  | with_reducible refine zCN fun _=>?_
  | with_reducible refine zCP fun _ _=>?_
  | with_reducible refine zCO ?_
  | ((with_reducible intro _ _ hy);first|subst hy|obtain ⟨_,rfl⟩:=hy|((with_reducible refine Le.ret ?_);exact hy))
  | ((with_reducible refine Le.ret ?_);first|exact rfl|exact Pu.mk|(simp only [eqs];first|exact rfl|exact Pu.mk))
  | refine Le.callI ?_
  | refine Le.dcallI ?_
  | with_reducible refine Le.idx fun _ _ _ _=>?_
  | with_reducible refine Le.idxN fun _ _ _=>?_
  | with_reducible refine Le.idxB fun _ _ _ _=>?_
  | with_reducible refine Le.idxBN fun _ _ _=>?_
  | with_reducible refine Le.sub fun _ _ _ _ _ _=>?_
  | with_reducible refine Le.subL fun _ _ _ _=>?_
  | with_reducible refine Le.subH fun _ _ _ _=>?_
  | with_reducible refine Le.subB fun _ _ _ _ _ _=>?_
  | with_reducible refine Le.subBL fun _ _ _ _=>?_
  | with_reducible refine Le.subBH fun _ _ _ _=>?_
  | with_reducible refine Le.app fun _ _ _=>?_
  | with_reducible refine Le.appB fun _ _ _=>?_
  | with_reducible refine Le.mkz fun _ _ _ _ _ _=>?_
  | with_reducible refine Le.mk0 fun _ _=>?_
  | with_reducible refine Le.chk fun _=>?_
  | with_reducible exact Le.none
  | exact Le.tlI _ (by first|exact rfl|exact go_cong (by simp only [push_cast, *];done)) rfl
  | refine Le.viaI _ (by first|exact rfl|exact go_cong (by simp only [push_cast, *];done)) ?_):Le K a x:=h
theorem G {c c':C} {en:En Res} {k:List Fr} {st:St} (e:c=c') (h:Le K a (go T en c' k st):=by exact A):Le K a (go T en c k st):=G0 e h
theorem GG {c c':C} {en:En Res} {k:List Fr} {st:St} (d:a=b) (e:c=c') (h:Le K b (go T en c' k st):=by exact A):Le K a (go T en c k st):=G1 d e h
theorem E {g:F} {n:Nat} {args:List D} {sto:List (List D)} (e:a=b) (hf:T.fn n=some g:=by rfl) (hp:T.pr n=Option.none:=by rfl) (hm:T.mrk n=Option.none:=by rfl) (hl:args.length=g.np:=by rfl) (h:Le K b (go T (enF g.res g.mus) g.body [] (g.init args sto)):=by exact A):Le K a (zab T n args sto):=E0 e hf hp hm hl h
end
end Go.Vx.WvZ

