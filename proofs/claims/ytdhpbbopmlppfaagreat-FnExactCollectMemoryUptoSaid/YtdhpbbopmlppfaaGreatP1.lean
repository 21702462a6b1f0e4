/-
  Names.
-/
import Derived.Test.YtdhpbbopmlppfaaGreatDef
import Derived.Test.YtdhpbbopmlppfaaGreatVxD
set_option linter.unusedVariables false
set_option linter.unusedSimpArgs false
namespace Go.Vx.CmZ
set_option linter.unusedVariables false
def zjV (p:Int):Bool:=decide (65≤p∧p≤90) || decide (97≤p∧p≤122)
def znC (p:Int):Bool:=decide (48≤p∧p≤57)
def isNB (p:Int):Bool:=zjV p || znC p || decide (p=95)
theorem zhT (p:Int):zfO p=some (zjV p):=by grind [zfO,zjV]
theorem zjC (p:Int):zeU p=some (zjV p):=by grind [zeU,zjV]
theorem zms (p:Int):zhS p=some (znC p):=by grind [zhS,znC]
theorem zpD (p:Int):zhd p=some (znC p):=by grind [zhd,znC]
theorem zyQ (p:Int):zen p=some (isNB p):=by simp only [zen,zhT,zms];grind [isNB]
def zaA (s:ByteArray):Bool :=
 match strI s with
 | []=>false
 | c::r=>decide ((c::r).length≤12) && (zjV c && (c::r).all isNB)
theorem ziD (l:List Int) (h:l.length≤1099511627776):zeE l=some (l.all isNB):=by
 unfold zeE
 rw [zbv l l.length (zdi l l l.length) zen isNB (fun i=>zdi.eq_1 ..) rfl h (fun a _=>zyQ a)]
 cases l.all isNB <;> rfl
theorem zcE (s:ByteArray):zcK s=some (zaA s):=by
 unfold zcK zaA
 have hl:(strI s).length=s.size:=zhJ s
 have hd:strI s=s.data.toList.map fun b=>(b.toNat:Int):=rfl
 cases hs:s.data.toList with
 | nil =>
  rw [hs] at hd
  rw [hd] at hl ⊢
  simp only [List.map_nil,List.length_nil] at hl ⊢
  rw [if_neg (by omega)]
 | cons b r =>
  rw [hs] at hd
  rw [hd] at hl
  by_cases h12:s.size≤12
  ·rw [ziD _ (by rw [zhJ];omega)]
   rw [hd]
   simp only [List.map_cons,List.length_cons] at hl ⊢
   simp only [idxBN,idxN,hs,zhT,List.getElem?_cons_zero,Option.bind_eq_bind,Option.bind_some]
   rw [if_pos (by omega),if_pos (by omega)]
   simp only [List.length_map] at hl ⊢
   rw [decide_eq_true (by omega)]
   cases zjV b.toNat <;> simp
  ·rw [hd]
   simp only [List.map_cons,List.length_cons] at hl ⊢
   rw [if_pos (by omega),if_neg (by omega),decide_eq_false (by omega)]
   simp
end Go.Vx.CmZ
