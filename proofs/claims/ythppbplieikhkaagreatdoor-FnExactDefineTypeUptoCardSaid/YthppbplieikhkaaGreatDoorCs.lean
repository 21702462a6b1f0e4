/-
  A scope's copy is the scope (the reference).
-/
import Derived.Test.YthppbplieikhkaaGreatDoorP5
set_option linter.unusedVariables false
set_option linter.unusedSimpArgs false
namespace Go.Vx.DtZ
set_option linter.unusedVariables false
theorem zrt (a : TFunction) (h : a.Params.length + a.Locals.length ≤ 1048576) : zcn a = some a := by
 unfold zcn
 rw [zda (show a.Params.length ≤ most by unfold most; omega), zda (show a.Locals.length ≤ most by unfold most; omega)]
 rfl
theorem znZ (a : TRecordType) (h : a.Fields.length ≤ 1048576) : zeb a = some a := by
 unfold zeb
 rw [zda (show a.Fields.length ≤ most by unfold most; omega)]
 rfl
theorem zyV (x z : TScope) (h : TScope.n x ≤ 1048576) (v : List TBinding) (t : List TRecordType) : zeO x z (TScope.mk v [] t) 0 = some (TScope.mk v x.Functions t) := by
 simp only [TScope.n] at h
 have key := zeu x.Functions (fun i rest => ∀ acc : List TFunction, acc.length = i → zeO x z (TScope.mk v acc t) (i : Int) = some (TScope.mk v (acc ++ rest) t)) ?_ ?_
 ·have := key [] rfl
  rw [show ((0 : Nat) : Int) = 0 from rfl] at this
  rw [this]; rfl
 ·intro acc ha
  rw [zeO.eq_1, if_neg (by omega), List.append_nil]
 ·intro i a rest hi hg hd ih acc ha
  have hm : a ∈ x.Functions := (List.getElem?_eq_some_iff.1 hg).2 ▸ List.getElem_mem hi
  have hs := zmF a (m := 1048576) (by have := zfb TFunction.n x.Functions hm; omega)
  rw [zeO.eq_1, if_pos (by omega), zaI, hg]
  simp only [zrt a hs, Option.bind_eq_bind, Option.bind_some]
  rw [zfU (by unfold most; simp only [List.length_cons, List.length_nil]; omega), w64 (by omega) (by omega)]
  simp only [Option.bind_some]
  have := ih (acc ++ [a]) (by simp; omega)
  rw [show ((i : Int) + 1) = ((i + 1 : Nat) : Int) by omega]
  rw [List.append_assoc] at this
  exact this
theorem zyW (x z : TScope) (h : TScope.n x ≤ 1048576) (v : List TBinding) (f : List TFunction) : zeP x z (TScope.mk v f []) 0 = some (TScope.mk v f x.Types) := by
 simp only [TScope.n] at h
 have key := zeu x.Types (fun i rest => ∀ acc : List TRecordType, acc.length = i → zeP x z (TScope.mk v f acc) (i : Int) = some (TScope.mk v f (acc ++ rest))) ?_ ?_
 ·have := key [] rfl
  rw [show ((0 : Nat) : Int) = 0 from rfl] at this
  rw [this]; rfl
 ·intro acc ha
  rw [zeP.eq_1, if_neg (by omega), List.append_nil]
 ·intro i a rest hi hg hd ih acc ha
  have hm : a ∈ x.Types := (List.getElem?_eq_some_iff.1 hg).2 ▸ List.getElem_mem hi
  have hs := zii a (m := 1048576) (by have := zfb TRecordType.n x.Types hm; omega)
  rw [zeP.eq_1, if_pos (by omega), zaI, hg]
  simp only [znZ a hs, Option.bind_eq_bind, Option.bind_some]
  rw [zfU (by unfold most; simp only [List.length_cons, List.length_nil]; omega), w64 (by omega) (by omega)]
  simp only [Option.bind_some]
  have := ih (acc ++ [a]) (by simp; omega)
  rw [show ((i : Int) + 1) = ((i + 1 : Nat) : Int) by omega]
  rw [List.append_assoc] at this
  exact this
theorem zuj (x : TScope) (h : TScope.n x ≤ 1048576) : zhY x = some x := by
 have h' := h
 simp only [TScope.n] at h'
 unfold zhY
 rw [zda (show x.Vars.length ≤ most by unfold most; omega)]
 simp only [Option.bind_eq_bind, Option.bind_some, zyV x _ h, zyW x _ h]
end Go.Vx.DtZ
