/-
  Names.
-/
import Derived.Test.YtnaaflejkfaiaaaGreatDef
import Derived.Test.YtnaaflejkfaiaaaGreatVxD
set_option linter.unusedVariables false
set_option linter.unusedSimpArgs false
namespace Go.Vx.CrZ
set_option linter.unusedVariables false
def zkp (p:Int):Bool:=decide (65≤p∧p≤90) || decide (97≤p∧p≤122)
def znJ (p:Int):Bool:=decide (48≤p∧p≤57)
def isNB (p:Int):Bool:=zkp p || znJ p || decide (p=95)
theorem zij (p:Int):zgi p=some (zkp p):=by grind [zgi,zkp]
theorem zjZ (p:Int):zfw p=some (zkp p):=by grind [zfw,zkp]
theorem zmB (p:Int):zie p=some (znJ p):=by grind [zie,znJ]
theorem zpr (p:Int):zhs p=some (znJ p):=by grind [zhs,znJ]
theorem zyc (p:Int):zeX p=some (isNB p):=by simp only [zeX,zij,zmB];grind [isNB]
def zdl (s:ByteArray):Bool :=
 match strI s with
 | []=>false
 | c::r=>decide ((c::r).length≤12) && (zkp c && (c::r).all isNB)
theorem zjh (l:List Int) (h:l.length≤1099511627776):zfi l=some (l.all isNB):=by
 unfold zfi
 rw [zdK l l.length (zdM l l l.length) zeX isNB (fun i=>zdM.eq_1 ..) rfl h (fun a _=>zyc a)]
 cases l.all isNB <;> rfl
theorem zfF (s:ByteArray):zfK s=some (zdl s):=by
 unfold zfK zdl
 have hl:(strI s).length=s.size:=zib s
 have hd:strI s=s.data.toList.map fun b=>(b.toNat:Int):=rfl
 cases hs:s.data.toList with
 | nil =>
  rw [hs] at hd
  rw [hd] at hl ⊢
  simp only [List.map_nil,List.length_nil] at hl ⊢
  rw [if_neg (by omega)]
 | cons b r =>
  rw [hs] at hd
  rw [hd] at hl
  by_cases h12:s.size≤12
  ·rw [zjh _ (by rw [zib];omega)]
   rw [hd]
   simp only [List.map_cons,List.length_cons] at hl ⊢
   simp only [idxBN,idxN,hs,zij,List.getElem?_cons_zero,Option.bind_eq_bind,Option.bind_some]
   rw [if_pos (by omega),if_pos (by omega)]
   simp only [List.length_map] at hl ⊢
   rw [decide_eq_true (by omega)]
   cases zkp b.toNat <;> simp
  ·rw [hd]
   simp only [List.map_cons,List.length_cons] at hl ⊢
   rw [if_pos (by omega),if_neg (by omega),decide_eq_false (by omega)]
   simp
end Go.Vx.CrZ
