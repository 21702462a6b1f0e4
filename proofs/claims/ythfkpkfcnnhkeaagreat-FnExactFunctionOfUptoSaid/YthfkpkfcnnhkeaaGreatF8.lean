/-
  FunctionOf: the program's answer is the reference's.
-/

import Derived.Test.YthfkpkfcnnhkeaaGreatCi
import Derived.Test.YthfkpkfcnnhkeaaGreatCmp
set_option linter.unusedVariables false
set_option linter.unusedSimpArgs false
namespace Go.Vx.FuZ
set_option linter.unusedVariables false
open Classical
theorem i_findF_eq (xs : List TFunction) (x : ByteArray) (h : xs.length ≤ 1048576) (hS : Srt TFunction.Name xs) : i_find_Function xs x = some (((pos TFunction.Name xs x : Nat) : Int), hasAt TFunction.Name xs x) := by
  unfold i_find_Function slices_BinarySearchFunc_Function_Function_string
  rw [find_eq TFunction.Name xs x h hS (fun a => i_find_Function_1 a x) (fun a => by simp only [i_find_Function_1, i_nameOfFunction, Option.bind_eq_bind, Option.bind_some, cmp_eq]) (slices_BinarySearchFunc_Function_Function_string_l1 xs x xs.length) (fun lo hi => slices_BinarySearchFunc_Function_Function_string_l1.eq_1 ..)]
  rfl
def zeroF : TFunction := TFunction.mk ByteArray.empty [] [] ByteArray.empty
def fnOf (xs : List TFunction) (x : ByteArray) : TFunction × Bool :=
  match xs.find? fun a => decide (a.Name = x) with
  | some a => (a, true)
  | none => (zeroF, false)
theorem i_function_eq (s : TScope) (x : ByteArray) (h : s.Functions.length ≤ 1048576) (hS : Srt TFunction.Name s.Functions) : i_Scope_function s x = some (fnOf s.Functions x) := by
  unfold i_Scope_function fnOf
  rw [i_findF_eq s.Functions x h hS, find_pos hS x]
  simp only [Option.bind_eq_bind, Option.bind_some, hasAt, idx_nat]
  cases hg : s.Functions[pos TFunction.Name s.Functions x]? with
  | none => simp [zeroF]
  | some a =>
    by_cases he : a.Name = x
    · simp [he]
    · simp [he, zeroF]
theorem s_find_eq (s : TScope) (x : ByteArray) (h : s.Functions.length ≤ 1048576) : s_l18Find s x = some (match s.Functions.findIdx? fun a => decide (a.Name = x) with
    | some i => (i : Int)
    | none => -1) := by
  unfold s_l18Find
  have key := list_ind s.Functions (fun i rest => s_l18Find_l1 x s (i : Int) = match rest.findIdx? fun a => decide (a.Name = x) with
    | some j => some (.inr ((i + j : Nat) : Int))
    | none => some (.inl ())) ?_ ?_
  · rw [show ((0 : Nat) : Int) = 0 from rfl] at key
    rw [key]
    cases s.Functions.findIdx? fun a => decide (a.Name = x) with
    | none => rfl
    | some j => simp
  · rw [s_l18Find_l1.eq_1, if_neg (by omega)]; rfl
  · intro i a rest hi hg hd ih
    have ih' : s_l18Find_l1 x s ((i : Int) + 1) = _ := ih
    rw [s_l18Find_l1.eq_1, if_pos (by omega)]
    simp only [idx_nat, hg, Option.bind_eq_bind, Option.bind_some]
    rw [List.findIdx?_cons, w64 (by omega) (by omega), ih']
    by_cases he : a.Name = x
    · simp [he]
    · rw [if_neg he, decide_eq_false he]
      cases rest.findIdx? fun a => decide (a.Name = x) with
      | none => rfl
      | some j => simp; omega
theorem s_FunctionOf_eq (s : TScope) (x : ByteArray) (h : TScope.n s ≤ 1048576) : s_FunctionOf s x = some (if ScopeOK s then fnOf s.Functions x else (zeroF, false)) := by
  have h' := h
  simp only [TScope.n] at h'
  unfold s_FunctionOf s_FunctionOf_j1 fnOf
  rw [s_find_eq s x (by omega), s_ValidScope_eq s h]
  simp only [Option.bind_eq_bind, Option.bind_some]
  by_cases hS : ScopeOK s
  · rw [decide_eq_true hS, if_pos rfl, if_pos hS]
    cases hi : s.Functions.findIdx? fun a => decide (a.Name = x) with
    | none =>
      have : s.Functions.find? (fun a => decide (a.Name = x)) = none := by
        rw [List.find?_eq_none]
        intro a ha
        have := List.findIdx?_eq_none_iff.1 hi a ha
        simp [this]
      rw [this]
      simp [zeroF]
    | some i =>
      obtain ⟨hlt, hp, hn⟩ := List.findIdx?_eq_some_iff_getElem.1 hi
      have : s.Functions.find? (fun a => decide (a.Name = x)) = some s.Functions[i] := by
        rw [List.find?_eq_some_iff_getElem]
        exact ⟨hp, i, hlt, rfl, fun j hj => by simpa using hn j hj⟩
      rw [this]
      simp only []
      rw [if_neg (by omega), idx_nat, List.getElem?_eq_getElem hlt]
      simp only [Option.bind_some]
      have hs := fn_size s.Functions[i] (m := 1048576) (by have := lsum_len TFunction.n s.Functions (List.getElem_mem hlt); omega)
      unfold s_l18OwnFunction
      rw [chk_pos (show s.Functions[i].Params.length ≤ most by unfold most; omega), chk_pos (show s.Functions[i].Locals.length ≤ most by unfold most; omega)]
      rfl
  · rw [decide_eq_false hS, if_neg (by simp), if_neg hS]; rfl
theorem pure_law (x0 : TScope) (x1 : ByteArray) (h0 : TScope.n x0 ≤ 1048576) (h1 : x1.size ≤ 1048576) (ht : TScope.n x0 + x1.size ≤ 1048576) : ∃ r, i_FunctionOf x0 x1 = some r ∧ s_FunctionOf x0 x1 = some r ∧ TFunction.n r.1 ≤ 34359738368 := by
  have h' := h0
  simp only [TScope.n] at h'
  have hz : TFunction.n zeroF ≤ 34359738368 := by decide
  refine ⟨_, ?_, s_FunctionOf_eq x0 x1 h0, ?_⟩
  · unfold i_FunctionOf
    rw [i_ValidScope_eq x0 h0, i_copied_eq x0 h0]
    simp only [Option.bind_eq_bind, Option.bind_some]
    by_cases hS : ScopeOK x0
    · rw [decide_eq_true hS, if_pos rfl, if_pos hS, i_function_eq x0 x1 (by omega) hS.2.1.2.1]; rfl
    · rw [decide_eq_false hS, if_neg (by simp), if_neg hS]; rfl
  · split
    · unfold fnOf
      cases hf : x0.Functions.find? fun a => decide (a.Name = x1) with
      | none => exact hz
      | some a =>
        have := lsum_len TFunction.n x0.Functions (List.mem_of_find?_eq_some hf)
        simp only []; omega
    · exact hz
end Go.Vx.FuZ
