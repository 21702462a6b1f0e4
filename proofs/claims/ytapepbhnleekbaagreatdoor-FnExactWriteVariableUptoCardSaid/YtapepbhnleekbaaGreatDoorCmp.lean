/-
  Comparing texts.
-/
import Derived.Test.YtapepbhnleekbaaGreatDoorP5
set_option linter.unusedVariables false
set_option linter.unusedSimpArgs false
namespace Go.Vx.WvZ
open Classical
theorem zCl (a b:ByteArray):zct a b=some (if ltB a b=true then -1 else if a=b then 0 else 1):=by
 unfold zct zdq
 simp only [Option.bind_eq_bind,Option.bind_some,Bool.false_eq_true,if_false]
 by_cases h1:ltB a b=true
 ·rw [if_pos h1,if_pos (show Op.bytesLess a.toList b.toList=true from h1)]
 ·rw [if_neg h1,if_neg (show ¬ Op.bytesLess a.toList b.toList=true from h1)]
  by_cases h2:a=b
  ·rw [if_pos h2,if_pos h2]
  ·rw [if_neg h2,if_neg h2]
def zfF {α:Type} (nm:α->ByteArray) (xs:List α) (x:ByteArray):Bool :=
 match xs[pos nm xs x]? with
 | some a=>decide (nm a=x)
 | none=>false
theorem zzG {α:Type} (nm:α->ByteArray) (xs:List α) (x:ByteArray) (h:xs.length<=1048576) (hS:Srt nm xs) (C:α->Option Int) (hc:∀ a,C a=some (if ltB (nm a) x=true then -1 else if nm a=x then 0 else 1)) (L:Int->Int->Option Int)
  (hL:∀ lo hi,L lo hi=if lo<hi then (idx xs (IntKind.wrap .i64 ((IntKind.wrap .u64 (IntKind.wrap .i64 (lo + hi))).fdiv (2 ^ (min 1 (IntKind.bits .u64))))) >>= fun a=>C a >>= fun r=>if r<0 then L (IntKind.wrap .i64 (IntKind.wrap .i64 ((IntKind.wrap .u64 (IntKind.wrap .i64 (lo + hi))).fdiv (2 ^ (min 1 (IntKind.bits .u64)))) + 1)) hi else L lo (IntKind.wrap .i64 ((IntKind.wrap .u64 (IntKind.wrap .i64 (lo + hi))).fdiv (2 ^ (min 1 (IntKind.bits .u64)))))) else some lo) :
  (L 0 xs.length >>= fun t=>if t<(xs.length:Int) then idx xs t >>= fun a=>C a >>= fun r=>some (t,decide (r=0)) else some (t,false))=some (((pos nm xs x:Nat):Int),zfF nm xs x):=by
 rw [zrr nm xs (by omega) hS x L ?_]
 ·simp only [Option.bind_eq_bind,Option.bind_some]
  unfold zfF
  by_cases hlt:pos nm xs x<xs.length
  ·rw [if_pos (by omega),zao,List.getElem?_eq_getElem hlt]
   simp only [Option.bind_some,hc]
   have hp:=zmz hS (x:=x) (List.getElem?_eq_getElem hlt)
   rw [if_neg (fun e=>absurd (hp.1 e) (Nat.lt_irrefl _))]
   by_cases he:nm xs[pos nm xs x]=x
   ·simp [he]
   ·simp [he]
  ·rw [if_neg (by omega),List.getElem?_eq_none (by omega)]
 ·intro lo hi
  rw [hL]
  by_cases hlt:(lo:Int)<hi
  ·rw [if_pos hlt,if_pos hlt]
   simp only [hc,Option.bind_eq_bind,Option.bind_some]
   congr 1
   funext a
   by_cases h1:ltB (nm a) x=true
   ·rw [if_pos h1,if_pos h1,if_pos (by omega)]
   ·rw [if_neg h1,if_neg h1]
    by_cases h2:nm a=x
    ·rw [if_pos h2,if_neg (by omega)]
    ·rw [if_neg h2,if_neg (by omega)]
  ·rw [if_neg hlt,if_neg hlt]
end Go.Vx.WvZ

