/-
  What the proofs of functions do.
-/
import Derived.Test.YtnaaflejkfaiaaaGreatCode
import Derived.Test.YtnaaflejkfaiaaaGreatDef
set_option linter.unusedVariables false
set_option linter.unusedSimpArgs false
namespace Go.Vx.CpZ
set_option linter.unusedVariables false
set_option linter.unusedSimpArgs false
set_option maxRecDepth 10000
set_option maxHeartbeats 2000000
attribute [local irreducible] go bk exi got
attribute [push_cast] sx tyd ty rds.eq_1 rds.eq_2 rg.eq_1 rg.eq_2 zs.eq_1 zs.eq_2 go_lpc sI sB sT sL dI dL PV v18 zyB v20 zyD v53 zyO v54 zyP v55 zyQ v59 zyU v60 zyV v61 zyW v93 zzm v96 zzn v98 zzo v118 zuH v119 zuI v120 zuJ v121 zuK v122 zuL v123 zuM v124 zuN v128 zuR v129 zuS v130 zuT v131 zuU v132 zuV v133 zuW v134 zuX v135 zuY v145 zvh v146 zvi v147 zvj v148 zvk v149 zvl v150 zvm v151 zvn v152 zvo v154 zvp v155 zvq v156 zvr v161 zvs v162 zvt v163 zvu v164 zvv v165 zvw v166 zvx v171 zvy v172 zvz v184 zvA v185 zvB v186 zvC v187 zvD v196 zvH v197 zvI v198 zvJ v199 zvK v202 zvN v204 zvO v205 zvP v206 zvQ v207 zvR v208 zvS v209 zvT v210 zvU v211 zvV v212 zvW v214 zvX v215 zvY v219 zvZ v220 zwa v221 zwb v222 zwc v224 zwd v229 zwe v230 zwf v231 zwg v234 zwj v235 zwk v236 zwl v237 zwm v238 zwn v239 zwo v242 zwr v243 zws v244 zwt v245 zwu v246 zwv v247 zww v248 zwx v250 zwy v251 zwz v252 zwA v253 zwB v254 zwC v256 zwD v260 zwE v261 zwF v262 zwG v263 zwH v264 zwI v265 zwJ v266 zwK v267 zwL v268 zwM
section
variable {α:Type} {K:α→Option Res→Prop} {a b:Option α}
theorem A {x:Option Res} (h:Le K a x:=by
 repeat' (try conv=>arg 3;simp (maxSteps:=999999) only [push_cast,↓reduceIte,seval, *]);first
  | with_reducible refine Le.bool (fun _=>?_) (fun _=>?_)
  | with_reducible refine Le.itq (fun _=>?_) (fun _=>?_)
  | with_reducible refine zzO ?_ ?_
  | with_reducible refine zzP ?_ ?_
  | with_reducible refine zzQ fun _=>?_
  | with_reducible refine zzR fun _=>?_
  | with_reducible refine zzT fun _ _=>?_
  | with_reducible refine zzS ?_
  | ((with_reducible intro _ _ hy);first|subst hy|obtain ⟨_,rfl⟩:=hy|((with_reducible refine Le.ret ?_);exact hy))
  | ((with_reducible refine Le.ret ?_);first|exact rfl|exact Pu.mk|(simp only [eqs];first|exact rfl|exact Pu.mk))
  | refine Le.callI ?_
  | refine Le.dcallI ?_
  | with_reducible refine Le.idx fun _ _ _ _=>?_
  | with_reducible refine Le.idxN fun _ _ _=>?_
  | with_reducible refine Le.idxB fun _ _ _ _=>?_
  | with_reducible refine Le.idxBN fun _ _ _=>?_
  | with_reducible refine Le.sub fun _ _ _ _ _ _=>?_
  | with_reducible refine Le.subL fun _ _ _ _=>?_
  | with_reducible refine Le.subH fun _ _ _ _=>?_
  | with_reducible refine Le.subB fun _ _ _ _ _ _=>?_
  | with_reducible refine Le.subBL fun _ _ _ _=>?_
  | with_reducible refine Le.subBH fun _ _ _ _=>?_
  | with_reducible refine Le.app fun _ _ _=>?_
  | with_reducible refine Le.appB fun _ _ _=>?_
  | with_reducible refine Le.mkz fun _ _ _ _ _ _=>?_
  | with_reducible refine Le.mk0 fun _ _=>?_
  | with_reducible refine Le.chk fun _=>?_
  | with_reducible exact Le.none
  | exact Le.tlI _ (by first|exact rfl|exact go_cong (by simp only [push_cast, *];done)) rfl
  | refine Le.viaI _ (by first|exact rfl|exact go_cong (by simp only [push_cast, *];done)) ?_):Le K a x:=h
theorem G {c c':C} {en:En Res} {k:List Fr} {st:St} (e:c=c') (h:Le K a (go T en c' k st):=by exact A):Le K a (go T en c k st):=G0 e h
theorem GG {c c':C} {en:En Res} {k:List Fr} {st:St} (d:a=b) (e:c=c') (h:Le K b (go T en c' k st):=by exact A):Le K a (go T en c k st):=G1 d e h
theorem E {g:F} {n:Nat} {args:List D} {sto:List (List D)} (e:a=b) (hf:T.fn n=some g:=by rfl) (hp:T.pr n=Option.none:=by rfl) (hm:T.mrk n=Option.none:=by rfl) (hl:args.length=g.np:=by rfl) (h:Le K b (go T (enF g.res g.mus) g.body [] (g.init args sto)):=by exact A):Le K a (zaa T n args sto):=E0 e hf hp hm hl h
end
end Go.Vx.CpZ
