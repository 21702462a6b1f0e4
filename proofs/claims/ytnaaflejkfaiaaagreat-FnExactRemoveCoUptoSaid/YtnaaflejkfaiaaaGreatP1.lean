/-
  Names.
-/
import Derived.Test.YtnaaflejkfaiaaaGreatDef
import Derived.Test.YtnaaflejkfaiaaaGreatVxD
set_option linter.unusedVariables false
set_option linter.unusedSimpArgs false
namespace Go.Vx.RmZ
def zkD (p:Int):Bool:=decide (65<=p∧p<=90) || decide (97<=p∧p<=122)
def zok (p:Int):Bool:=decide (48<=p∧p<=57)
def isNB (p:Int):Bool:=zkD p || zok p || decide (p=95)
theorem ziv (p:Int):zgo p=some (zkD p):=by grind [zgo,zkD]
theorem zko (p:Int):zfB p=some (zkD p):=by grind [zfB,zkD]
theorem zmY (p:Int):zip p=some (zok p):=by grind [zip,zok]
theorem zqb (p:Int):zhw p=some (zok p):=by grind [zhw,zok]
theorem zzb (p:Int):zfb p=some (isNB p):=by simp only [zfb,ziv,zmY];grind [isNB]
def zdn (s:ByteArray):Bool :=
 match strI s with
 | []=>false
 | c::r=>decide ((c::r).length<=12) && (zkD c && (c::r).all isNB)
theorem zjv (l:List Int) (h:l.length<=1099511627776):zfn l=some (l.all isNB):=by
 unfold zfn
 rw [zdQ l l.length (zdS l l l.length) zfb isNB (fun i=>zdS.eq_1 ..) rfl h (fun a _=>zzb a)]
 cases l.all isNB <;> rfl
theorem zfJ (s:ByteArray):zfP s=some (zdn s):=by
 unfold zfP zdn
 have hl:(strI s).length=s.size:=zij s
 have hd:strI s=s.data.toList.map fun b=>(b.toNat:Int):=rfl
 cases hs:s.data.toList with
 | nil =>
  rw [hs] at hd
  rw [hd] at hl ⊢
  simp only [List.map_nil,List.length_nil] at hl ⊢
  rw [if_neg (by omega)]
 | cons b r =>
  rw [hs] at hd
  rw [hd] at hl
  by_cases h12:s.size<=12
  ·rw [zjv _ (by rw [zij];omega)]
   rw [hd]
   simp only [List.map_cons,List.length_cons] at hl ⊢
   simp only [idxBN,idxN,hs,ziv,List.getElem?_cons_zero,Option.bind_eq_bind,Option.bind_some]
   rw [if_pos (by omega),if_pos (by omega)]
   simp only [List.length_map] at hl ⊢
   rw [decide_eq_true (by omega)]
   cases zkD b.toNat <;> simp
  ·rw [hd]
   simp only [List.map_cons,List.length_cons] at hl ⊢
   rw [if_pos (by omega),if_neg (by omega),decide_eq_false (by omega)]
   simp
end Go.Vx.RmZ

