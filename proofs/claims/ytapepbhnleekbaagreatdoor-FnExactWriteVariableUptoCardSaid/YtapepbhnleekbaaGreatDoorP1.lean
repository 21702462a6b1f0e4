/-
  Names.
-/
import Derived.Test.YtapepbhnleekbaaGreatDoorDef
import Derived.Test.YtapepbhnleekbaaGreatDoorVxD
set_option linter.unusedVariables false
set_option linter.unusedSimpArgs false
namespace Go.Vx.WvZ
def zko (p:Int):Bool:=decide (65<=p∧p<=90) || decide (97<=p∧p<=122)
def zod (p:Int):Bool:=decide (48<=p∧p<=57)
def isNB (p:Int):Bool:=zko p || zod p || decide (p=95)
theorem zhV (p:Int):zfS p=some (zko p):=by grind [zfS,zko]
theorem zjN (p:Int):zeW p=some (zko p):=by grind [zeW,zko]
theorem zmT (p:Int):zhR p=some (zod p):=by grind [zhR,zod]
theorem zqk (p:Int):zha p=some (zod p):=by grind [zha,zod]
theorem zzA (p:Int):zem p=some (isNB p):=by simp only [zem,zhV,zmT];grind [isNB]
def zaI (s:ByteArray):Bool :=
 match strI s with
 | []=>false
 | c::r=>decide ((c::r).length<=12) && (zko c && (c::r).all isNB)
theorem ziK (l:List Int) (h:l.length<=1099511627776):zeE l=some (l.all isNB):=by
 unfold zeE
 rw [zbu l l.length (zdi l l l.length) zem isNB (fun i=>zdi.eq_1 ..) rfl h (fun a _=>zzA a)]
 cases l.all isNB <;> rfl
theorem zcb (s:ByteArray):zco s=some (zaI s):=by
 unfold zco zaI
 have hl:(strI s).length=s.size:=zhG s
 have hd:strI s=s.data.toList.map fun b=>(b.toNat:Int):=rfl
 cases hs:s.data.toList with
 | nil =>
  rw [hs] at hd
  rw [hd] at hl ⊢
  simp only [List.map_nil,List.length_nil] at hl ⊢
  rw [if_neg (by omega)]
 | cons b r =>
  rw [hs] at hd
  rw [hd] at hl
  by_cases h12:s.size<=12
  ·rw [ziK _ (by rw [zhG];omega)]
   rw [hd]
   simp only [List.map_cons,List.length_cons] at hl ⊢
   simp only [idxBN,idxN,hs,zhV,List.getElem?_cons_zero,Option.bind_eq_bind,Option.bind_some]
   rw [if_pos (by omega),if_pos (by omega)]
   simp only [List.length_map] at hl ⊢
   rw [decide_eq_true (by omega)]
   cases zko b.toNat <;> simp
  ·rw [hd]
   simp only [List.map_cons,List.length_cons] at hl ⊢
   rw [if_pos (by omega),if_neg (by omega),decide_eq_false (by omega)]
   simp
end Go.Vx.WvZ

