/-
  What the proofs of functions do.
-/
import Derived.Test.YtnaaflejkfaiaaaGreatCode
import Derived.Test.YtnaaflejkfaiaaaGreatDef
set_option linter.unusedVariables false
set_option linter.unusedSimpArgs false
namespace Go.Vx.RfZ
set_option linter.unusedVariables false
set_option linter.unusedSimpArgs false
set_option maxRecDepth 10000
set_option maxHeartbeats 2000000
attribute [local irreducible] go bk exi got
attribute [push_cast] sx tyd ty rds.eq_1 rds.eq_2 rg.eq_1 rg.eq_2 zs.eq_1 zs.eq_2 go_lpc sI sB sT sL dI dL PV v35 zzF v36 zzG v53 zzM v54 zzN v55 zzO v59 zzS v60 zzT v61 zzU v74 zAd v78 zAg v83 zAl v84 zAm v85 zAn v86 zAo v93 zAp v96 zAq v98 zAr v99 zAs v118 zvB v119 zvC v120 zvD v121 zvE v122 zvF v123 zvG v124 zvH v128 zvL v129 zvM v130 zvN v131 zvO v132 zvP v133 zvQ v134 zvR v135 zvS v145 zwb v146 zwc v147 zwd v148 zwe v149 zwf v150 zwg v151 zwh v152 zwi v153 zwj v154 zwk v155 zwl v156 zwm v161 zwn v162 zwo v163 zwp v164 zwq v165 zwr v166 zws v171 zwt v172 zwu v184 zwv v185 zww v186 zwx v187 zwy v188 zwz v196 zwD v197 zwE v198 zwF v199 zwG v202 zwJ v204 zwK v205 zwL v206 zwM v207 zwN v208 zwO v209 zwP v210 zwQ v211 zwR v212 zwS v213 zwT v214 zwU v215 zwV v219 zwW v220 zwX v221 zwY v222 zwZ v224 zxa v229 zxb v230 zxc v231 zxd v234 zxg v235 zxh v236 zxi v237 zxj v238 zxk v239 zxl v242 zxo v243 zxp v244 zxq v245 zxr v246 zxs v247 zxt v248 zxu v250 zxv v251 zxw v252 zxx v253 zxy v254 zxz v256 zxA v260 zxB v261 zxC v262 zxD v263 zxE v264 zxF v265 zxG v266 zxH v267 zxI v268 zxJ
section
variable {α:Type} {K:α→Option Res→Prop} {a b:Option α}
theorem A {x:Option Res} (h:Le K a x:=by
 repeat' (try conv=>arg 3;simp (maxSteps:=999999) only [push_cast,↓reduceIte,seval, *]);first
  | with_reducible refine Le.bool (fun _=>?_) (fun _=>?_)
  | with_reducible refine Le.itq (fun _=>?_) (fun _=>?_)
  | with_reducible refine zAU ?_ ?_
  | with_reducible refine zAV ?_ ?_
  | with_reducible refine zAW fun _=>?_
  | with_reducible refine zAX fun _=>?_
  | with_reducible refine zAZ fun _ _=>?_
  | with_reducible refine zAY ?_
  | ((with_reducible intro _ _ hy);first|subst hy|obtain ⟨_,rfl⟩:=hy|((with_reducible refine Le.ret ?_);exact hy))
  | ((with_reducible refine Le.ret ?_);first|exact rfl|exact Pu.mk|(simp only [eqs];first|exact rfl|exact Pu.mk))
  | refine Le.callI ?_
  | refine Le.dcallI ?_
  | with_reducible refine Le.idx fun _ _ _ _=>?_
  | with_reducible refine Le.idxN fun _ _ _=>?_
  | with_reducible refine Le.idxB fun _ _ _ _=>?_
  | with_reducible refine Le.idxBN fun _ _ _=>?_
  | with_reducible refine Le.sub fun _ _ _ _ _ _=>?_
  | with_reducible refine Le.subL fun _ _ _ _=>?_
  | with_reducible refine Le.subH fun _ _ _ _=>?_
  | with_reducible refine Le.subB fun _ _ _ _ _ _=>?_
  | with_reducible refine Le.subBL fun _ _ _ _=>?_
  | with_reducible refine Le.subBH fun _ _ _ _=>?_
  | with_reducible refine Le.app fun _ _ _=>?_
  | with_reducible refine Le.appB fun _ _ _=>?_
  | with_reducible refine Le.mkz fun _ _ _ _ _ _=>?_
  | with_reducible refine Le.mk0 fun _ _=>?_
  | with_reducible refine Le.chk fun _=>?_
  | with_reducible exact Le.none
  | exact Le.tlI _ (by first|exact rfl|exact go_cong (by simp only [push_cast, *];done)) rfl
  | refine Le.viaI _ (by first|exact rfl|exact go_cong (by simp only [push_cast, *];done)) ?_):Le K a x:=h
theorem G {c c':C} {en:En Res} {k:List Fr} {st:St} (e:c=c') (h:Le K a (go T en c' k st):=by exact A):Le K a (go T en c k st):=G0 e h
theorem GG {c c':C} {en:En Res} {k:List Fr} {st:St} (d:a=b) (e:c=c') (h:Le K b (go T en c' k st):=by exact A):Le K a (go T en c k st):=G1 d e h
theorem E {g:F} {n:Nat} {args:List D} {sto:List (List D)} (e:a=b) (hf:T.fn n=some g:=by rfl) (hp:T.pr n=Option.none:=by rfl) (hm:T.mrk n=Option.none:=by rfl) (hl:args.length=g.np:=by rfl) (h:Le K b (go T (enF g.res g.mus) g.body [] (g.init args sto)):=by exact A):Le K a (zaa T n args sto):=E0 e hf hp hm hl h
end
end Go.Vx.RfZ
