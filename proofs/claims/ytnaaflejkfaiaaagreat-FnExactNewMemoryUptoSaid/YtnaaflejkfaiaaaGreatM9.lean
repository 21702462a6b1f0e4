/-
  A new memory: both sides.
-/
import Derived.Test.YtnaaflejkfaiaaaGreatDef
import Derived.Test.YtnaaflejkfaiaaaGreatVxD
set_option linter.unusedVariables false
set_option linter.unusedSimpArgs false
namespace Go.Vx.NmZ
set_option linter.unusedVariables false
def zlJ : THeap := THeap.mk 0 []
def zcx : TScope := TScope.mk [] [] []
def con (xs : List ByteArray) : TConsole := TConsole.mk xs 0 [] [] []
def mem (xs : List ByteArray) : TMemory := TMemory.mk zlJ zcx (con xs)
abbrev zs : TScope := TScope.mk [] [] []
def inOK (xs : List ByteArray) : Bool := decide (xs.length ≤ 100) && xs.all fun s => decide ((s.size : Int) ≤ 200)
theorem zAs : zfQ zlJ = some true := by
 unfold zfQ zeR zeo zcZ zdD zlJ
 rw [zen.eq_1, zgJ.eq_1, zds.eq_1]
 simp
theorem zwc : zeJ zlJ = some true := by
 unfold zeJ zmQ ziL zdL zlJ
 rw [ziK.eq_1, zkB.eq_1]
 simp
theorem zwQ : zeZ zcx = some true := by
 unfold zeZ zeu zcf zcD zcl zbA zdF zda zcm zcx
 rw [zcV.eq_1, zcB.eq_1, zce.eq_1, zdP.eq_1, zdt.eq_1, zcC.eq_1]
 simp
theorem ztD : zdT zcx = some true := by
 unfold zdT zej zcx
 rw [zeg.eq_1, zeh.eq_1, zei.eq_1]
 simp
theorem zwd (xs : List ByteArray) (h : xs.length ≤ 1048576) : zaR xs = some (xs.all fun s => decide ((s.size : Int) ≤ 200)) := by
 unfold zaR
 rw [zsW xs xs.length (zbQ xs xs xs.length) zjR (fun s => decide ((s.size : Int) ≤ 200)) (fun i => zbQ.eq_1 ..) rfl (by omega) (fun a _ => rfl)]
 cases xs.all fun s => decide ((s.size : Int) ≤ 200) <;> rfl
theorem zwe (xs : List ByteArray) (m : Int) (h : xs.length ≤ 1048576) : zek xs m 200 0 = if (xs.all fun s => decide ((s.size : Int) ≤ 200)) = true then some (.inl ()) else some (.inr false) := by
 refine zsW xs xs.length (zek xs m 200) (fun s => some (decide ((s.size : Int) ≤ 200))) (fun s => decide ((s.size : Int) ≤ 200)) (fun i => ?_) rfl (by omega) (fun a _ => rfl)
 rw [zek.eq_1]
 by_cases hi : i < (xs.length : Int)
 ·rw [if_pos hi, if_pos hi]
  congr 1
  funext a
  by_cases ha : (a.size : Int) > 200
  ·rw [if_pos ha]
   simp only [Option.bind_eq_bind, Option.bind_some]
   rw [decide_eq_false (by omega), if_neg (by simp)]
  ·rw [if_neg ha]
   simp only [Option.bind_eq_bind, Option.bind_some]
   rw [decide_eq_true (by omega), if_pos rfl]
 ·rw [if_neg hi, if_neg hi]
theorem zCz (xs : List ByteArray) (h : xs.length ≤ 1048576) : zdA (con xs) = some (inOK xs) := by
 unfold zdA zdd zbj con zdD inOK
 simp only [zwd xs h, zwd [] (by decide)]
 unfold zdb zfB zew
 rw [zdv.eq_1, zfm.eq_1, zev.eq_1]
 by_cases hl : (xs.length : Int) > 100
 ·rw [if_pos hl, decide_eq_false (show ¬ xs.length ≤ 100 by omega)]; rfl
 ·rw [if_neg hl, decide_eq_true (show xs.length ≤ 100 by omega)]
  cases xs.all fun s => decide ((s.size : Int) ≤ 200) <;> simp
theorem zCA (xs : List ByteArray) (h : xs.length ≤ 1048576) : zdz (con xs) = some (inOK xs) := by
 unfold zdz zpZ ziO con zdL inOK zeK
 simp only [zwe xs 100 h, zwe [] 100 (by decide)]
 rw [ziN.eq_1, zek.eq_1]
 by_cases hl : (xs.length : Int) > 100
 ·rw [if_pos hl, decide_eq_false (show ¬ xs.length ≤ 100 by omega)]; simp
 ·rw [if_neg hl, decide_eq_true (show xs.length ≤ 100 by omega)]
  cases xs.all fun s => decide ((s.size : Int) ≤ 200) <;> simp
theorem zwR : zex zcx = some [] := by
 unfold zex zcx
 rw [zfn.eq_1]
 simp
theorem zBY : zbx [] zlJ = some true := by
 unfold zbx
 rw [zdO.eq_1]
 simp
theorem zwS : zeY zcx = some [] := by
 unfold zeY
 rw [ztD, zfO.eq_1]
 simp [zcx]
theorem zAt : zik zlJ [] = some true := by
 unfold zik
 rw [zij.eq_1]
 simp [zwc]
theorem zCB (xs : List ByteArray) (h : xs.length ≤ 1048576) : zde (mem xs) = some (inOK xs) := by
 unfold zde mem
 simp only [zAs, zwQ, zCz xs h, zwR, zBY, Option.bind_eq_bind, Option.bind_some, if_true]
 cases inOK xs <;> rfl
theorem zCC (xs : List ByteArray) (h : xs.length ≤ 1048576) : zcY (mem xs) = some (inOK xs) := by
 unfold zcY mem
 simp only [zwc, ztD, zCA xs h, zwS, zAt, Option.bind_eq_bind, Option.bind_some, if_true]
 cases inOK xs <;> rfl
theorem zAu : zdf zlJ = some zlJ := by
 unfold zdf zlJ
 rw [zfo.eq_1]
 simp
theorem zwT : zcz zcx = some zcx := by
 have h1 : ∀ z, zch zcx z [] ((0 : Nat) : Int) zcx 0 = some zcx := fun z => by rw [zch.eq_1]; simp
 have h2 : ∀ z, zbk zcx z [] ((0 : Nat) : Int) zcx 0 = some zcx := fun z => by rw [zbk.eq_1]; simp
 unfold zcz zaG
 rw [zon (show zcx.Vars.length ≤ most by unfold most; simp [zcx])]
 show (zch zcx zs [] ((0 : Nat) : Int) zcx 0 >>= fun t => zbk zcx zs [] ((0 : Nat) : Int) t 0 >>= fun t_1 => some t_1) = _
 rw [h1]
 show (zbk zcx zs [] ((0 : Nat) : Int) zcx 0 >>= fun t_1 => some t_1) = _
 rw [h2]; rfl
theorem zBZ (xs : List ByteArray) (h : xs.length ≤ 1048576) : zby (con xs) = some (con xs) := by
 unfold zby zad con
 simp only []
 rw [zon (show xs.length ≤ most by unfold most; omega), zon (show ([] : List ByteArray).length ≤ most by unfold most; simp)]
 simp only [Option.bind_eq_bind, Option.bind_some]
 rw [zdQ.eq_1]
 simp
theorem zCa (xs : List ByteArray) (h : xs.length ≤ 1048576) : zci (mem xs) = some (mem xs) := by
 unfold zci
 show (zdf zlJ >>= fun r5 => zcz zcx >>= fun r8 => zby (con xs) >>= fun r11 => some (TMemory.mk r5 r8 r11)) = _
 rw [zAu, zwT, zBZ xs h]; rfl
theorem zCb (xs : List ByteArray) : TMemory.n (mem xs) = xs.length + lsum ByteArray.size xs := by
 simp [TMemory.n, TConsole.n, TScope.n, THeap.n, mem, con, zlJ, zcx, ziI]
theorem zwU (x0 : List ByteArray) (h0 : x0.length + lsum ByteArray.size x0 ≤ 1048576) (ht : (x0.length + lsum ByteArray.size x0) ≤ 1048576) : ∃ r, zhz x0 = some r ∧ zhv x0 = some r ∧ TMemory.n r.1 ≤ 34359738368 := by
 have h : x0.length ≤ 1048576 := by omega
 have e1 := zCB x0 h
 have e2 := zCC x0 h
 have e3 := zCa x0 h
 refine ⟨if inOK x0 = true then (mem x0, true) else (mem [], false), ?_, ?_, ?_⟩
 ·unfold zhz
  show (zde (mem x0) >>= fun r9 => if r9 = true then zci (mem x0) >>= fun r13 => some (r13, true) else some (mem [], false)) = _
  rw [e1, e3]
  cases inOK x0 <;> rfl
 ·unfold zhv
  rw [zon (show x0.length ≤ most by unfold most; omega)]
  show (zcY (mem x0) >>= fun r11 => if r11 = true then some (mem x0, true) else some (mem [], false)) = _
  rw [e2]
  cases inOK x0 <;> rfl
 ·split
  ·rw [zCb]; omega
  ·rw [zCb]; simp [ziI]
end Go.Vx.NmZ
