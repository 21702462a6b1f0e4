/-
  A scope's copy is the scope (the reference).
-/
import Derived.Test.YthppbplieikhkaaGreatP5
set_option linter.unusedVariables false
set_option linter.unusedSimpArgs false
namespace Go.Vx.AsZ
set_option linter.unusedVariables false
theorem zqo (a : TFunction) (h : a.Params.length + a.Locals.length ≤ 1048576) : zch a = some a := by
 unfold zch
 rw [zcn (show a.Params.length ≤ most by unfold most; omega), zcn (show a.Locals.length ≤ most by unfold most; omega)]
 rfl
theorem zng (a : TRecordType) (h : a.Fields.length ≤ 1048576) : zdH a = some a := by
 unfold zdH
 rw [zcn (show a.Fields.length ≤ most by unfold most; omega)]
 rfl
theorem zxh (x z : TScope) (h : TScope.n x ≤ 1048576) (v : List TBinding) (t : List TRecordType) : zej x z (TScope.mk v [] t) 0 = some (TScope.mk v x.Functions t) := by
 simp only [TScope.n] at h
 have key := zfj x.Functions (fun i rest => ∀ acc : List TFunction, acc.length = i → zej x z (TScope.mk v acc t) (i : Int) = some (TScope.mk v (acc ++ rest) t)) ?_ ?_
 ·have := key [] rfl
  rw [show ((0 : Nat) : Int) = 0 from rfl] at this
  rw [this]; rfl
 ·intro acc ha
  rw [zej.eq_1, if_neg (by omega), List.append_nil]
 ·intro i a rest hi hg hd ih acc ha
  have hm : a ∈ x.Functions := (List.getElem?_eq_some_iff.1 hg).2 ▸ List.getElem_mem hi
  have hs := zlQ a (m := 1048576) (by have := zey TFunction.n x.Functions hm; omega)
  rw [zej.eq_1, if_pos (by omega), zaP, hg]
  simp only [zqo a hs, Option.bind_eq_bind, Option.bind_some]
  rw [zfS (by unfold most; simp only [List.length_cons, List.length_nil]; omega), w64 (by omega) (by omega)]
  simp only [Option.bind_some]
  have := ih (acc ++ [a]) (by simp; omega)
  rw [show ((i : Int) + 1) = ((i + 1 : Nat) : Int) by omega]
  rw [List.append_assoc] at this
  exact this
theorem zxi (x z : TScope) (h : TScope.n x ≤ 1048576) (v : List TBinding) (f : List TFunction) : zek x z (TScope.mk v f []) 0 = some (TScope.mk v f x.Types) := by
 simp only [TScope.n] at h
 have key := zfj x.Types (fun i rest => ∀ acc : List TRecordType, acc.length = i → zek x z (TScope.mk v f acc) (i : Int) = some (TScope.mk v f (acc ++ rest))) ?_ ?_
 ·have := key [] rfl
  rw [show ((0 : Nat) : Int) = 0 from rfl] at this
  rw [this]; rfl
 ·intro acc ha
  rw [zek.eq_1, if_neg (by omega), List.append_nil]
 ·intro i a rest hi hg hd ih acc ha
  have hm : a ∈ x.Types := (List.getElem?_eq_some_iff.1 hg).2 ▸ List.getElem_mem hi
  have hs := zhH a (m := 1048576) (by have := zey TRecordType.n x.Types hm; omega)
  rw [zek.eq_1, if_pos (by omega), zaP, hg]
  simp only [zng a hs, Option.bind_eq_bind, Option.bind_some]
  rw [zfS (by unfold most; simp only [List.length_cons, List.length_nil]; omega), w64 (by omega) (by omega)]
  simp only [Option.bind_some]
  have := ih (acc ++ [a]) (by simp; omega)
  rw [show ((i : Int) + 1) = ((i + 1 : Nat) : Int) by omega]
  rw [List.append_assoc] at this
  exact this
theorem zsP (x : TScope) (h : TScope.n x ≤ 1048576) : zhs x = some x := by
 have h' := h
 simp only [TScope.n] at h'
 unfold zhs
 rw [zcn (show x.Vars.length ≤ most by unfold most; omega)]
 simp only [Option.bind_eq_bind, Option.bind_some, zxh x _ h, zxi x _ h]
end Go.Vx.AsZ
