/-
  Consoles that are valid, both sides.
-/
import Derived.Test.YtapepbhnleekbaaGreatDoorP5
set_option linter.unusedVariables false
set_option linter.unusedSimpArgs false
namespace Go.Vx.WvZ
open Classical
theorem zlV (xs:List ByteArray) (h:xs.length<=1048576):zbk xs=some (xs.all fun s=>decide ((s.size:Int)<=200)):=by
 unfold zbk
 rw [zbu xs xs.length (zbG xs xs xs.length) zjB (fun s=>decide ((s.size:Int)<=200)) (fun i=>zbG.eq_1 ..) rfl (by omega) (fun a _=>rfl)]
 cases xs.all fun s=>decide ((s.size:Int)<=200) <;> rfl
theorem zuI (xs:List ByteArray) (h:xs.length<=1048576):zcM xs=some (xs.all fun s=>decide ((s.size:Int)<=1300)):=by
 unfold zcM
 rw [zbu xs xs.length (zbH xs xs xs.length) zet (fun s=>decide ((s.size:Int)<=1300)) (fun i=>zbH.eq_1 ..) rfl (by omega) (fun a _=>rfl)]
 cases xs.all fun s=>decide ((s.size:Int)<=1300) <;> rfl
theorem zlW (xs:List ByteArray) (m b:Int) (h:xs.length<=1048576):zdY xs m b=some (decide ((xs.length:Int)<=m) && xs.all fun s=>decide ((s.size:Int)<=b)):=by
 have key:zdG xs m b 0=if (xs.all fun s=>decide ((s.size:Int)<=b))=true then some (.inl ()) else some (.inr false):=by
  refine zbu xs xs.length (zdG xs m b) (fun s=>some (decide ((s.size:Int)<=b))) (fun s=>decide ((s.size:Int)<=b)) (fun i=>?_) rfl (by omega) (fun a _=>rfl)
  rw [zdG.eq_1]
  by_cases hi:i<(xs.length:Int)
  ·rw [if_pos hi,if_pos hi]
   congr 1
   funext a
   by_cases ha:(a.size:Int) > b
   ·rw [if_pos ha]
    simp only [Option.bind_eq_bind,Option.bind_some]
    rw [decide_eq_false (by omega),if_neg (by simp)]
   ·rw [if_neg ha]
    simp only [Option.bind_eq_bind,Option.bind_some]
    rw [decide_eq_true (by omega),if_pos rfl]
  ·rw [if_neg hi,if_neg hi]
 unfold zdY
 rw [key]
 by_cases hl:(xs.length:Int) > m
 ·rw [if_pos hl,decide_eq_false (by omega)];rfl
 ·rw [if_neg hl,decide_eq_true (by omega)]
  cases xs.all fun s=>decide ((s.size:Int)<=b) <;> rfl
def zfT (f:TFile):Prop:=zaI f.Name=true∧((f.Lines.length:Int)<=40∧(f.Lines.all fun s=>decide ((s.size:Int)<=200))=true)∧(0<=f.Mode∧f.Mode<=3)∧(0<=f.At∧f.At<=f.Lines.length)∧(f.Mode=1 ∨ f.At=0)
theorem ztI (f:TFile) (h:f.Lines.length<=1048576):zhN f=some (decide (zfT f)):=by
 unfold zhN zgF
 rw [zlW _ _ _ h]
 simp only [zbp,zgK,Option.bind_eq_bind,Option.bind_some]
 unfold zfT
 by_cases h1:zaI f.Name=true <;> by_cases h2:(f.Lines.length:Int)<=40 <;> by_cases h3:(f.Lines.all fun s=>decide ((s.size:Int)<=200))=true <;> by_cases h4:0<=f.Mode∧f.Mode<=3 <;> by_cases h5:0<=f.At∧f.At<=f.Lines.length <;> by_cases h6:f.Mode=1 <;> simp [h1,h2,h3,h4,h5,h6]
theorem ztJ (f:TFile) (h:f.Lines.length<=1048576):zdd f=some (decide (zfT f)):=by
 unfold zdd zcN zbQ zlC
 rw [zlV _ h]
 simp only [zcb,zdv,Option.bind_eq_bind,Option.bind_some]
 unfold zfT
 by_cases h8:f.Mode=0
 ·by_cases h1:zaI f.Name=true <;> by_cases h2:(f.Lines.length:Int)<=40 <;> by_cases h3:(f.Lines.all fun s=>decide ((s.size:Int)<=200))=true <;> by_cases h5:0<=f.At∧f.At<=f.Lines.length <;> by_cases h7:f.At=0 <;> simp [h1,h2,h3,h5,h7,h8]
 ·have e:(1<=f.Mode∧f.Mode<=3) ↔ (0<=f.Mode∧f.Mode<=3):=by omega
  simp only [e]
  by_cases h1:zaI f.Name=true <;> by_cases h2:(f.Lines.length:Int)<=40 <;> by_cases h3:(f.Lines.all fun s=>decide ((s.size:Int)<=200))=true <;> by_cases h5:0<=f.At∧f.At<=f.Lines.length <;> by_cases h6:f.Mode=1 <;> by_cases h7:f.At=0 <;> by_cases hM:0<=f.Mode∧f.Mode<=3 <;> simp [h1,h2,h3,h5,h6,h7,h8,hM]
def zfk (c:TConsole):Prop:=((c.Input.length:Int)<=100∧(c.Input.all fun s=>decide ((s.size:Int)<=200))=true)∧(0<=c.At∧c.At<=c.Input.length)∧((c.Output.length:Int)<=100∧(c.Output.all fun s=>decide ((s.size:Int)<=200))=true)∧(c.Files.length:Int)<=6∧((c.Trace.length:Int)<=200∧(c.Trace.all fun s=>decide ((s.size:Int)<=1300))=true)∧(∀ f ∈ c.Files,zfT f)∧Srt TFile.Name c.Files
theorem zgl (c:TConsole) (h:TConsole.n c<=1048576):c.Input.length<=1048576∧c.Output.length<=1048576∧c.Trace.length<=1048576∧c.Files.length<=1048576∧∀ f ∈ c.Files,f.Lines.length<=1048576:=by
 simp only [TConsole.n] at h
 refine ⟨by omega,by omega,by omega,by omega,fun f hf=>?_⟩
 have:=zeM TFile.n c.Files hf
 simp only [TFile.n] at this
 omega
theorem zpr (c:TConsole) (h:TConsole.n c<=1048576):zcW c=some (decide (zfk c)):=by
 obtain ⟨q1,q2,q3,q4,q5⟩:=zgl c h
 have key:zeS c 0=if (∀ a ∈ c.Files,zfT a)∧Srt TFile.Name c.Files then some (.inl ()) else some (.inr false):=by
  refine zhY TFile.Name zfT c.Files q4 (zeS c) ?_ ?_
  ·intro i a hi hg
   have hm:a ∈ c.Files:=(List.getElem?_eq_some_iff.1 hg).2 ▸ List.getElem_mem hi
   rw [zeS.eq_1,if_pos (by omega)]
   simp only [zao,hg,Option.bind_eq_bind,Option.bind_some,ztI a (q5 a hm)]
   by_cases h1:zfT a
   ·rw [if_pos (decide_eq_true h1),if_pos h1]
   ·rw [if_neg (by rw [decide_eq_false h1];simp),if_neg h1]
  ·rw [zeS.eq_1,if_neg (by omega)]
 unfold zcW ziq zip
 rw [zlW _ _ _ q1,zlW _ _ _ q2,zlW _ _ _ q3,key]
 simp only [zgK,Option.bind_eq_bind,Option.bind_some]
 by_cases h1:(c.Input.length:Int)<=100∧(c.Input.all fun s=>decide ((s.size:Int)<=200))=true
 ·by_cases h2:0<=c.At∧c.At<=c.Input.length
  ·by_cases h3:(c.Output.length:Int)<=100∧(c.Output.all fun s=>decide ((s.size:Int)<=200))=true
   ·by_cases h4:(c.Files.length:Int)<=6
    ·by_cases h5:(c.Trace.length:Int)<=200∧(c.Trace.all fun s=>decide ((s.size:Int)<=1300))=true
     ·by_cases hF:(∀ f ∈ c.Files,zfT f)∧Srt TFile.Name c.Files
      ·rw [if_pos hF,decide_eq_true (show zfk c from ⟨h1,h2,h3,h4,h5,hF⟩)]
       simp [h1,h2,h3,h5,Int.not_lt.2 h4]
      ·rw [if_neg hF,decide_eq_false (fun q:zfk c=>hF q.2.2.2.2.2)]
       simp [h1,h2,h3,h5,Int.not_lt.2 h4]
     ·rw [decide_eq_false (fun q:zfk c=>h5 q.2.2.2.2.1)]
      have e5:(decide ((c.Trace.length:Int)<=200) && c.Trace.all fun s=>decide ((s.size:Int)<=1300))=false:=by rw [Bool.eq_false_iff];simpa using h5
      rw [e5];simp [h1,h2,h3,Int.not_lt.2 h4]
    ·rw [decide_eq_false (fun q:zfk c=>h4 q.2.2.2.1),if_pos (show (c.Files.length:Int) > 6 by omega)]
     simp [h1,h2,h3]
   ·rw [decide_eq_false (fun q:zfk c=>h3 q.2.2.1)]
    have e3:(decide ((c.Output.length:Int)<=100) && c.Output.all fun s=>decide ((s.size:Int)<=200))=false:=by rw [Bool.eq_false_iff];simpa using h3
    rw [e3];simp [h1,h2]
  ·rw [decide_eq_false (fun q:zfk c=>h2 q.2.1),decide_eq_false h2]
   simp [h1]
 ·rw [decide_eq_false (fun q:zfk c=>h1 q.1)]
  have e1:(decide ((c.Input.length:Int)<=100) && c.Input.all fun s=>decide ((s.size:Int)<=200))=false:=by rw [Bool.eq_false_iff];simpa using h1
  rw [e1];simp
theorem zuJ (c:TConsole) (h:TConsole.n c<=1048576):zef c=some (decide (zfk c)):=by
 obtain ⟨q1,q2,q3,q4,q5⟩:=zgl c h
 have k1:zeF c.Files=some (decide (∀ f ∈ c.Files,zfT f)):=by
  unfold zeF
  rw [zbu c.Files c.Files.length (zdm c.Files c.Files c.Files.length) zdd (fun b=>decide (zfT b)) (fun i=>zdm.eq_1 ..) rfl (by omega) (fun a ha=>ztJ a (q5 a ha)),zmW]
  by_cases hS:∀ b ∈ c.Files,zfT b
  ·rw [decide_eq_true hS];rfl
  ·rw [decide_eq_false hS];rfl
 have k2:zdR c.Files=some (decide (Srt TFile.Name c.Files)):=by
  unfold zdR
  rw [zhW TFile.Name c.Files q4 (zcs c.Files) (fun i=>zcs.eq_1 ..)]
  by_cases hS:Srt TFile.Name c.Files
  ·rw [if_pos hS,decide_eq_true hS];rfl
  ·rw [if_neg hS,decide_eq_false hS];rfl
 unfold zef zec zbR
 rw [zlV _ q1,zlV _ q2,zuI _ q3,k1,k2]
 simp only [zdv,Option.bind_eq_bind,Option.bind_some]
 by_cases h1:(c.Input.length:Int)<=100
 ·rw [if_neg (by omega)]
  by_cases h3:(c.Output.length:Int)<=100
  ·rw [if_neg (by omega)]
   by_cases h4:(c.Files.length:Int)<=6
   ·rw [if_neg (by omega)]
    by_cases h5:(c.Trace.length:Int)<=200
    ·rw [if_neg (by omega)]
     by_cases g1:(c.Input.all fun s=>decide ((s.size:Int)<=200))=true
     ·by_cases g2:(c.Output.all fun s=>decide ((s.size:Int)<=200))=true
      ·by_cases g3:(c.Trace.all fun s=>decide ((s.size:Int)<=1300))=true
       ·by_cases h2:0<=c.At∧c.At<=c.Input.length
        ·by_cases hA:∀ f ∈ c.Files,zfT f
         ·by_cases hS:Srt TFile.Name c.Files
          ·rw [decide_eq_true (show zfk c from ⟨⟨h1,g1⟩,h2,⟨h3,g2⟩,h4,⟨h5,g3⟩,hA,hS⟩),g1,g2,g3,decide_eq_true h2,decide_eq_true hA,decide_eq_true hS];rfl
          ·rw [decide_eq_false (fun q:zfk c=>hS q.2.2.2.2.2.2),g1,g2,g3,decide_eq_true h2,decide_eq_true hA,decide_eq_false hS];rfl
         ·rw [decide_eq_false (fun q:zfk c=>hA q.2.2.2.2.2.1),g1,g2,g3,decide_eq_true h2,decide_eq_false hA];rfl
        ·rw [decide_eq_false (fun q:zfk c=>h2 q.2.1),g1,g2,g3,decide_eq_false h2];rfl
       ·rw [decide_eq_false (fun q:zfk c=>g3 q.2.2.2.2.1.2),g1,g2,Bool.eq_false_iff.2 g3];rfl
      ·rw [decide_eq_false (fun q:zfk c=>g2 q.2.2.1.2),g1,Bool.eq_false_iff.2 g2];rfl
     ·rw [decide_eq_false (fun q:zfk c=>g1 q.1.2),Bool.eq_false_iff.2 g1];rfl
    ·rw [if_pos (by omega),decide_eq_false (fun q:zfk c=>h5 q.2.2.2.2.1.1)]
   ·rw [if_pos (by omega),decide_eq_false (fun q:zfk c=>h4 q.2.2.2.1)]
  ·rw [if_pos (by omega),decide_eq_false (fun q:zfk c=>h3 q.2.2.1.1)]
 ·rw [if_pos (by omega),decide_eq_false (fun q:zfk c=>h1 q.1.1)]
end Go.Vx.WvZ

