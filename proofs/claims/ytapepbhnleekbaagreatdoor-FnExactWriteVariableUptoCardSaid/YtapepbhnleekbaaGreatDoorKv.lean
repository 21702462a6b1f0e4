/-
  WriteVariable: both sides answer the same.
-/
import Derived.Test.YtapepbhnleekbaaGreatDoorWr
set_option linter.unusedVariables false
set_option linter.unusedSimpArgs false
namespace Go.Vx.WvZ
open Classical
theorem zuU (x0:TMemory) (x1:ByteArray) (x2:TValue) (h0:TMemory.n x0<=1048576) (h1:x1.size<=1048576) (h2:TValue.n x2<=1048576) (ht:TMemory.n x0 + x1.size + TValue.n x2<=1048576):∃ r,zfi x0 x1 x2=some r∧zff x0 x1 x2=some r∧TMemory.n r.1<=34359738368:=by
 obtain ⟨g1,g2,g3,g4,g5⟩:=zfv x0 h0
 unfold zfi zff
 rw [zuM x0 h0,zuL x0 h0]
 simp only [Option.bind_eq_bind,Option.bind_some]
 have hz:∃ r,some ((zM,1):TMemory × Int)=some r∧some ((zM,1):TMemory × Int)=some r∧TMemory.n r.1<=34359738368:=⟨_,rfl,rfl,by decide⟩
 by_cases hM:zjW x0
 ·rw [decide_eq_true hM,if_pos rfl,if_pos rfl,zcb,zbp]
  simp only [Option.bind_some]
  by_cases hn:zaI x1=true
  ·rw [if_pos hn,if_pos hn,znb x0.Heap x2 g2 hM.1.2.2.2.2.1]
   unfold zeT
   rw [zlU x0.Heap g1,decide_eq_true hM.1,zia x0.Heap x2 g2]
   simp only [Option.bind_eq_bind,Option.bind_some,if_true]
   by_cases hf:FitP x0.Heap.Objects x2
   ·rw [decide_eq_true hf,if_pos rfl,if_pos rfl]
    exact ⟨_,i_wr x0 x1 x2 h0 hM,s_wr x0 x1 x2 h0 hM,zuT x0 x1 x2 h0 h1 h2⟩
   ·rw [decide_eq_false hf]
    exact hz
  ·rw [if_neg hn,if_neg hn]
   exact hz
 ·rw [decide_eq_false hM]
  exact hz
end Go.Vx.WvZ

