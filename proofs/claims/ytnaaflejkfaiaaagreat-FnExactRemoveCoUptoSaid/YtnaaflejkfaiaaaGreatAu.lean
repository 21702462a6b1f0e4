/-
  What the proofs of functions do.
-/
import Derived.Test.YtnaaflejkfaiaaaGreatCode
import Derived.Test.YtnaaflejkfaiaaaGreatDef
set_option linter.unusedVariables false
set_option linter.unusedSimpArgs false
namespace Go.Vx.RmZ
set_option maxRecDepth 10000
set_option maxHeartbeats 2000000
attribute [local irreducible] go bk exi got
attribute [push_cast] sx tyd ty rds.eq_1 rds.eq_2 rg.eq_1 rg.eq_2 zs.eq_1 zs.eq_2 go_lpc sI sB sT sL dI dL PV Bool.true_beq Bool.false_beq beq_true beq_false v33 zAt v34 zAu v53 zAA v54 zAB v55 zAC v59 zAG v60 zAH v61 zAI v83 zAX v84 zAY v85 zAZ v86 zBa v93 zBb v96 zBc v98 zBd v99 zBe v118 zwo v119 zwp v120 zwq v121 zwr v122 zws v123 zwt v124 zwu v128 zwy v129 zwz v130 zwA v131 zwB v132 zwC v133 zwD v134 zwE v135 zwF v145 zwO v146 zwP v147 zwQ v148 zwR v149 zwS v150 zwT v151 zwU v152 zwV v153 zwW v154 zwX v155 zwY v156 zwZ v161 zxa v162 zxb v163 zxc v164 zxd v165 zxe v166 zxf v171 zxg v172 zxh v184 zxi v185 zxj v186 zxk v187 zxl v188 zxm v196 zxq v197 zxr v198 zxs v199 zxt v202 zxw v204 zxx v205 zxy v206 zxz v207 zxA v208 zxB v209 zxC v210 zxD v211 zxE v212 zxF v213 zxG v214 zxH v215 zxI v219 zxJ v220 zxK v221 zxL v222 zxM v224 zxN v229 zxO v230 zxP v231 zxQ v234 zxT v235 zxU v236 zxV v237 zxW v238 zxX v239 zxY v242 zyb v243 zyc v244 zyd v245 zye v246 zyf v247 zyg v248 zyh v250 zyi v251 zyj v252 zyk v253 zyl v254 zym v256 zyn v260 zyo v261 zyp v262 zyq v263 zyr v264 zys v265 zyt v266 zyu v267 zyv v268 zyw
section
variable {α:Type} {K:α->Option Res->Prop} {a b:Option α}
theorem A {x:Option Res} (h:Le K a x:=by
 repeat' (try conv=>arg 3;simp (maxSteps:=999999) only [push_cast,↓reduceIte,seval, *]);first
  | with_reducible refine Le.bool (fun _=>?_) (fun _=>?_)
  | with_reducible refine Le.itq (fun _=>?_) (fun _=>?_)
  | with_reducible refine zBG ?_ ?_
  | with_reducible refine zBH ?_ ?_
  | with_reducible refine zBI fun _=>?_
  | with_reducible refine zBJ fun _=>?_
  | with_reducible refine zBL fun _ _=>?_
  | with_reducible refine zBK ?_
  | ((with_reducible intro _ _ hy);first|subst hy|obtain ⟨_,rfl⟩:=hy|((with_reducible refine Le.ret ?_);exact hy))
  | ((with_reducible refine Le.ret ?_);first|exact rfl|exact Pu.mk|(simp only [eqs];first|exact rfl|exact Pu.mk))
  | refine Le.callI ?_
  | refine Le.dcallI ?_
  | with_reducible refine Le.idx fun _ _ _ _=>?_
  | with_reducible refine Le.idxN fun _ _ _=>?_
  | with_reducible refine Le.idxB fun _ _ _ _=>?_
  | with_reducible refine Le.idxBN fun _ _ _=>?_
  | with_reducible refine Le.sub fun _ _ _ _ _ _=>?_
  | with_reducible refine Le.subL fun _ _ _ _=>?_
  | with_reducible refine Le.subH fun _ _ _ _=>?_
  | with_reducible refine Le.subB fun _ _ _ _ _ _=>?_
  | with_reducible refine Le.subBL fun _ _ _ _=>?_
  | with_reducible refine Le.subBH fun _ _ _ _=>?_
  | with_reducible refine Le.app fun _ _ _=>?_
  | with_reducible refine Le.appB fun _ _ _=>?_
  | with_reducible refine Le.mkz fun _ _ _ _ _ _=>?_
  | with_reducible refine Le.mk0 fun _ _=>?_
  | with_reducible refine Le.chk fun _=>?_
  | with_reducible exact Le.none
  | exact Le.tlI _ (by first|exact rfl|exact go_cong (by simp only [push_cast, *];done)) rfl
  | refine Le.viaI _ (by first|exact rfl|exact go_cong (by simp only [push_cast, *];done)) ?_):Le K a x:=h
theorem G {c c':C} {en:En Res} {k:List Fr} {st:St} (e:c=c') (h:Le K a (go T en c' k st):=by exact A):Le K a (go T en c k st):=G0 e h
theorem GG {c c':C} {en:En Res} {k:List Fr} {st:St} (d:a=b) (e:c=c') (h:Le K b (go T en c' k st):=by exact A):Le K a (go T en c k st):=G1 d e h
theorem E {g:F} {n:Nat} {args:List D} {sto:List (List D)} (e:a=b) (hf:T.fn n=some g:=by rfl) (hp:T.pr n=Option.none:=by rfl) (hm:T.mrk n=Option.none:=by rfl) (hl:args.length=g.np:=by rfl) (h:Le K b (go T (enF g.res g.mus) g.body [] (g.init args sto)):=by exact A):Le K a (zaa T n args sto):=E0 e hf hp hm hl h
end
end Go.Vx.RmZ

