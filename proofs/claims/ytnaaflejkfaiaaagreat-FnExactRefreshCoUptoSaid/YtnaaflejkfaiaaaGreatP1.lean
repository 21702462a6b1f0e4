/-
  Names.
-/
import Derived.Test.YtnaaflejkfaiaaaGreatDef
import Derived.Test.YtnaaflejkfaiaaaGreatVxD
set_option linter.unusedVariables false
set_option linter.unusedSimpArgs false
namespace Go.Vx.RfZ
set_option linter.unusedVariables false
def zkr (p:Int):Bool:=decide (65≤p∧p≤90) || decide (97≤p∧p≤122)
def znP (p:Int):Bool:=decide (48≤p∧p≤57)
def isNB (p:Int):Bool:=zkr p || znP p || decide (p=95)
theorem zip (p:Int):zgj p=some (zkr p):=by grind [zgj,zkr]
theorem zkc (p:Int):zfy p=some (zkr p):=by grind [zfy,zkr]
theorem zmC (p:Int):zij p=some (znP p):=by grind [zij,znP]
theorem zpy (p:Int):zhr p=some (znP p):=by grind [zhr,znP]
theorem zyq (p:Int):zfb p=some (isNB p):=by simp only [zfb,zip,zmC];grind [isNB]
def zdn (s:ByteArray):Bool :=
 match strI s with
 | []=>false
 | c::r=>decide ((c::r).length≤12) && (zkr c && (c::r).all isNB)
theorem zjj (l:List Int) (h:l.length≤1099511627776):zfm l=some (l.all isNB):=by
 unfold zfm
 rw [zdO l l.length (zdQ l l l.length) zfb isNB (fun i=>zdQ.eq_1 ..) rfl h (fun a _=>zyq a)]
 cases l.all isNB <;> rfl
theorem zfH (s:ByteArray):zfL s=some (zdn s):=by
 unfold zfL zdn
 have hl:(strI s).length=s.size:=zif s
 have hd:strI s=s.data.toList.map fun b=>(b.toNat:Int):=rfl
 cases hs:s.data.toList with
 | nil =>
  rw [hs] at hd
  rw [hd] at hl ⊢
  simp only [List.map_nil,List.length_nil] at hl ⊢
  rw [if_neg (by omega)]
 | cons b r =>
  rw [hs] at hd
  rw [hd] at hl
  by_cases h12:s.size≤12
  ·rw [zjj _ (by rw [zif];omega)]
   rw [hd]
   simp only [List.map_cons,List.length_cons] at hl ⊢
   simp only [idxBN,idxN,hs,zip,List.getElem?_cons_zero,Option.bind_eq_bind,Option.bind_some]
   rw [if_pos (by omega),if_pos (by omega)]
   simp only [List.length_map] at hl ⊢
   rw [decide_eq_true (by omega)]
   cases zkr b.toNat <;> simp
  ·rw [hd]
   simp only [List.map_cons,List.length_cons] at hl ⊢
   rw [if_pos (by omega),if_neg (by omega),decide_eq_false (by omega)]
   simp
end Go.Vx.RfZ
