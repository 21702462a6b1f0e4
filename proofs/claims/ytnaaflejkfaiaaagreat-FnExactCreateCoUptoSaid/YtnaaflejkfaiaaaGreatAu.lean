/-
  What the proofs of functions do.
-/
import Derived.Test.YtnaaflejkfaiaaaGreatCode
import Derived.Test.YtnaaflejkfaiaaaGreatDef
set_option linter.unusedVariables false
set_option linter.unusedSimpArgs false
namespace Go.Vx.CrZ
set_option linter.unusedVariables false
set_option linter.unusedSimpArgs false
set_option maxRecDepth 10000
set_option maxHeartbeats 2000000
attribute [local irreducible] go bk exi got
attribute [push_cast] sx tyd ty rds.eq_1 rds.eq_2 rg.eq_1 rg.eq_2 zs.eq_1 zs.eq_2 go_lpc sI sB sT sL dI dL PV v27 zzn v29 zzp v53 zzx v55 zzy v60 zzC v61 zzD v73 zzM v74 zzN v77 zzQ v78 zzR v83 zzW v86 zzX v93 zzY v96 zzZ v98 zAa v99 zAb v118 zvq v119 zvr v120 zvs v121 zvt v122 zvu v123 zvv v124 zvw v130 zvA v131 zvB v132 zvC v133 zvD v134 zvE v135 zvF v145 zvO v146 zvP v147 zvQ v148 zvR v149 zvS v150 zvT v151 zvU v152 zvV v153 zvW v154 zvX v155 zvY v156 zvZ v161 zwa v162 zwb v163 zwc v164 zwd v165 zwe v166 zwf v171 zwg v172 zwh v184 zwi v185 zwj v186 zwk v187 zwl v188 zwm v196 zwq v197 zwr v198 zws v199 zwt v202 zww v204 zwx v205 zwy v206 zwz v207 zwA v208 zwB v209 zwC v210 zwD v211 zwE v212 zwF v213 zwG v214 zwH v215 zwI v219 zwJ v220 zwK v221 zwL v222 zwM v224 zwN v229 zwO v230 zwP v231 zwQ v234 zwT v235 zwU v236 zwV v237 zwW v238 zwX v239 zwY v242 zxb v243 zxc v244 zxd v245 zxe v246 zxf v247 zxg v248 zxh v250 zxi v251 zxj v252 zxk v253 zxl v254 zxm v256 zxn v260 zxo v261 zxp v262 zxq v263 zxr v264 zxs v265 zxt v266 zxu v267 zxv v268 zxw
section
variable {α:Type} {K:α→Option Res→Prop} {a b:Option α}
theorem A {x:Option Res} (h:Le K a x:=by
 repeat' (try conv=>arg 3;simp (maxSteps:=999999) only [push_cast,↓reduceIte,seval, *]);first
  | with_reducible refine Le.bool (fun _=>?_) (fun _=>?_)
  | with_reducible refine Le.itq (fun _=>?_) (fun _=>?_)
  | with_reducible refine zAD ?_ ?_
  | with_reducible refine zAE ?_ ?_
  | with_reducible refine zAF fun _=>?_
  | with_reducible refine zAG fun _=>?_
  | with_reducible refine zAI fun _ _=>?_
  | with_reducible refine zAH ?_
  | ((with_reducible intro _ _ hy);first|subst hy|obtain ⟨_,rfl⟩:=hy|((with_reducible refine Le.ret ?_);exact hy))
  | ((with_reducible refine Le.ret ?_);first|exact rfl|exact Pu.mk|(simp only [eqs];first|exact rfl|exact Pu.mk))
  | refine Le.callI ?_
  | refine Le.dcallI ?_
  | with_reducible refine Le.idx fun _ _ _ _=>?_
  | with_reducible refine Le.idxN fun _ _ _=>?_
  | with_reducible refine Le.idxB fun _ _ _ _=>?_
  | with_reducible refine Le.idxBN fun _ _ _=>?_
  | with_reducible refine Le.sub fun _ _ _ _ _ _=>?_
  | with_reducible refine Le.subL fun _ _ _ _=>?_
  | with_reducible refine Le.subH fun _ _ _ _=>?_
  | with_reducible refine Le.subB fun _ _ _ _ _ _=>?_
  | with_reducible refine Le.subBL fun _ _ _ _=>?_
  | with_reducible refine Le.subBH fun _ _ _ _=>?_
  | with_reducible refine Le.app fun _ _ _=>?_
  | with_reducible refine Le.appB fun _ _ _=>?_
  | with_reducible refine Le.mkz fun _ _ _ _ _ _=>?_
  | with_reducible refine Le.mk0 fun _ _=>?_
  | with_reducible refine Le.chk fun _=>?_
  | with_reducible exact Le.none
  | exact Le.tlI _ (by first|exact rfl|exact go_cong (by simp only [push_cast, *];done)) rfl
  | refine Le.viaI _ (by first|exact rfl|exact go_cong (by simp only [push_cast, *];done)) ?_):Le K a x:=h
theorem G {c c':C} {en:En Res} {k:List Fr} {st:St} (e:c=c') (h:Le K a (go T en c' k st):=by exact A):Le K a (go T en c k st):=G0 e h
theorem GG {c c':C} {en:En Res} {k:List Fr} {st:St} (d:a=b) (e:c=c') (h:Le K b (go T en c' k st):=by exact A):Le K a (go T en c k st):=G1 d e h
theorem E {g:F} {n:Nat} {args:List D} {sto:List (List D)} (e:a=b) (hf:T.fn n=some g:=by rfl) (hp:T.pr n=Option.none:=by rfl) (hm:T.mrk n=Option.none:=by rfl) (hl:args.length=g.np:=by rfl) (h:Le K b (go T (enF g.res g.mus) g.body [] (g.init args sto)):=by exact A):Le K a (zaa T n args sto):=E0 e hf hp hm hl h
end
end Go.Vx.CrZ
