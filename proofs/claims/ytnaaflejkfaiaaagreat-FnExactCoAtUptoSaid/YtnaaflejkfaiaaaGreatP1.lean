/-
  Names.
-/
import Derived.Test.YtnaaflejkfaiaaaGreatDef
import Derived.Test.YtnaaflejkfaiaaaGreatVxD
set_option linter.unusedVariables false
set_option linter.unusedSimpArgs false
namespace Go.Vx.CpZ
set_option linter.unusedVariables false
def zjW (p:Int):Bool:=decide (65≤p∧p≤90) || decide (97≤p∧p≤122)
def znp (p:Int):Bool:=decide (48≤p∧p≤57)
def isNB (p:Int):Bool:=zjW p || znp p || decide (p=95)
theorem zhV (p:Int):zga p=some (zjW p):=by grind [zga,zjW]
theorem zjF (p:Int):zfn p=some (zjW p):=by grind [zfn,zjW]
theorem zmh (p:Int):zhQ p=some (znp p):=by grind [zhQ,znp]
theorem zoS (p:Int):zhb p=some (znp p):=by grind [zhb,znp]
theorem zxt (p:Int):zeP p=some (isNB p):=by simp only [zeP,zhV,zmh];grind [isNB]
def zdg (s:ByteArray):Bool :=
 match strI s with
 | []=>false
 | c::r=>decide ((c::r).length≤12) && (zjW c && (c::r).all isNB)
theorem ziN (l:List Int) (h:l.length≤1099511627776):zfa l=some (l.all isNB):=by
 unfold zfa
 rw [zdF l l.length (zdH l l l.length) zeP isNB (fun i=>zdH.eq_1 ..) rfl h (fun a _=>zxt a)]
 cases l.all isNB <;> rfl
theorem zfv (s:ByteArray):zfA s=some (zdg s):=by
 unfold zfA zdg
 have hl:(strI s).length=s.size:=zhM s
 have hd:strI s=s.data.toList.map fun b=>(b.toNat:Int):=rfl
 cases hs:s.data.toList with
 | nil =>
  rw [hs] at hd
  rw [hd] at hl ⊢
  simp only [List.map_nil,List.length_nil] at hl ⊢
  rw [if_neg (by omega)]
 | cons b r =>
  rw [hs] at hd
  rw [hd] at hl
  by_cases h12:s.size≤12
  ·rw [ziN _ (by rw [zhM];omega)]
   rw [hd]
   simp only [List.map_cons,List.length_cons] at hl ⊢
   simp only [idxBN,idxN,hs,zhV,List.getElem?_cons_zero,Option.bind_eq_bind,Option.bind_some]
   rw [if_pos (by omega),if_pos (by omega)]
   simp only [List.length_map] at hl ⊢
   rw [decide_eq_true (by omega)]
   cases zjW b.toNat <;> simp
  ·rw [hd]
   simp only [List.map_cons,List.length_cons] at hl ⊢
   rw [if_pos (by omega),if_neg (by omega),decide_eq_false (by omega)]
   simp
end Go.Vx.CpZ
