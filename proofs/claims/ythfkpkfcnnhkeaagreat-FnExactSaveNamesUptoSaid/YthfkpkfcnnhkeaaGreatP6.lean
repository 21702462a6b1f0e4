/-
  Variables that are looked up.
-/

import Derived.Test.YthfkpkfcnnhkeaaGreatP5
set_option linter.unusedVariables false
set_option linter.unusedSimpArgs false
namespace Go.Vx.SaZ
set_option linter.unusedVariables false
open Classical
theorem cmp_eq (a b : ByteArray) : cmp_Compare_string a b = some (if ltB a b = true then -1 else if a = b then 0 else 1) := by
  unfold cmp_Compare_string cmp_isNaN_string
  simp only [Option.bind_eq_bind, Option.bind_some, Bool.false_eq_true, if_false]
  by_cases h1 : ltB a b = true
  · rw [if_pos h1, if_pos (show Op.bytesLess a.toList b.toList = true from h1)]
  · rw [if_neg h1, if_neg (show ¬ Op.bytesLess a.toList b.toList = true from h1)]
    by_cases h2 : a = b
    · rw [if_pos h2, if_pos h2]
    · rw [if_neg h2, if_neg h2]
def hasAt {α : Type} (nm : α → ByteArray) (xs : List α) (x : ByteArray) : Bool :=
  match xs[pos nm xs x]? with
  | some a => decide (nm a = x)
  | none => false
theorem i_findB_eq (xs : List TBinding) (x : ByteArray) (h : xs.length ≤ 1048576) (hS : Srt TBinding.Name xs) : i_find_Binding xs x = some (((pos TBinding.Name xs x : Nat) : Int), hasAt TBinding.Name xs x) := by
  unfold i_find_Binding slices_BinarySearchFunc_Binding_Binding_string
  have hc : ∀ a, i_find_Binding_1 a x = some (if ltB a.Name x = true then -1 else if a.Name = x then 0 else 1) := fun a => by
    simp only [i_find_Binding_1, i_nameOfBinding, Option.bind_eq_bind, Option.bind_some, cmp_eq]
  rw [half_loop TBinding.Name xs (by omega) hS x (slices_BinarySearchFunc_Binding_Binding_string_l1 xs x xs.length) ?_]
  · simp only [Option.bind_eq_bind, Option.bind_some]
    unfold hasAt
    by_cases hlt : pos TBinding.Name xs x < xs.length
    · rw [if_pos (by omega), idx_nat, List.getElem?_eq_getElem hlt]
      simp only [Option.bind_some, hc]
      have hp := pos_lt hS (x := x) (List.getElem?_eq_getElem hlt)
      rw [if_neg (fun e => absurd (hp.1 e) (Nat.lt_irrefl _))]
      by_cases he : xs[pos TBinding.Name xs x].Name = x
      · simp [he]
      · simp [he]
    · rw [if_neg (by omega), List.getElem?_eq_none (by omega)]
      rfl
  · intro lo hi
    rw [slices_BinarySearchFunc_Binding_Binding_string_l1.eq_1]
    by_cases hlt : (lo : Int) < hi
    · rw [if_pos hlt, if_pos hlt]
      simp only [hc, Option.bind_eq_bind, Option.bind_some]
      congr 1
      funext a
      by_cases h1 : ltB a.Name x = true
      · rw [if_pos h1, if_pos h1, if_pos (by omega)]
      · rw [if_neg h1, if_neg h1]
        by_cases h2 : a.Name = x
        · rw [if_pos h2, if_neg (by omega)]
        · rw [if_neg h2, if_neg (by omega)]
    · rw [if_neg hlt, if_neg hlt]
def nulV : TValue := TValue.mk 1 0 ⟨#[]⟩ 0
def valOf (x : TScope) (nm : ByteArray) : TValue :=
  match x.Vars.find? fun a => decide (a.Name = nm) with
  | some a => a.Value
  | none => nulV
theorem i_lookup_eq (x : TScope) (nm : ByteArray) (h : x.Vars.length ≤ 1048576) (hS : Srt TBinding.Name x.Vars) : i_Scope_lookup x nm = some (valOf x nm) := by
  unfold i_Scope_lookup valOf
  rw [i_findB_eq x.Vars nm h hS, find_pos hS nm]
  simp only [Option.bind_eq_bind, Option.bind_some, hasAt, idx_nat]
  cases hg : x.Vars[pos TBinding.Name x.Vars nm]? with
  | none => simp [i_null, i_textOf, nulV]
  | some a =>
    by_cases he : a.Name = nm
    · simp [he]
    · simp [he, i_null, i_textOf, nulV]
theorem s_value_eq (x : TScope) (nm : ByteArray) (h : x.Vars.length ≤ 1048576) : s_l18Value x nm = some (valOf x nm) := by
  unfold s_l18Value valOf
  have key := list_ind x.Vars (fun i rest => s_l18Value_l1 nm x (TValue.mk 0 0 ByteArray.empty 0) (i : Int) = match rest.find? fun a => decide (a.Name = nm) with
    | some a => some (.inr a.Value)
    | none => some (.inl ())) ?_ ?_
  · rw [show ((0 : Nat) : Int) = 0 from rfl] at key
    rw [key]
    cases x.Vars.find? fun a => decide (a.Name = nm) with
    | none => rfl
    | some a => rfl
  · rw [s_l18Value_l1.eq_1, if_neg (by omega)]; rfl
  · intro i a rest hi hg hd ih
    rw [s_l18Value_l1.eq_1, if_pos (by omega)]
    simp only [idx_nat, hg, Option.bind_eq_bind, Option.bind_some]
    rw [List.find?_cons, w64 (by omega) (by omega)]
    by_cases he : a.Name = nm
    · simp [he]
    · rw [if_neg he, decide_eq_false he]; exact ih
theorem i_save_eq (x : TScope) (ns : List ByteArray) (h : x.Vars.length ≤ 1048576) (hn : ns.length ≤ 1048576) (hS : Srt TBinding.Name x.Vars) : i_Scope_save x ns = some (ns.map fun n => TBinding.mk n (valOf x n)) := by
  unfold i_Scope_save
  have key := list_ind ns (fun i rest => ∀ acc : List TBinding, acc.length = i → i_Scope_save_l1 ns x ns ns.length acc (i : Int) = some (acc ++ rest.map fun n => TBinding.mk n (valOf x n))) ?_ ?_
  · have := key [] rfl
    rw [show ((0 : Nat) : Int) = 0 from rfl] at this
    rw [this]; rfl
  · intro acc ha
    rw [i_Scope_save_l1.eq_1, if_neg (by omega)]; simp
  · intro i a rest hi hg hd ih acc ha
    rw [i_Scope_save_l1.eq_1, if_pos (by omega)]
    simp only [idx_nat, hg, i_lookup_eq x a h hS, Option.bind_eq_bind, Option.bind_some]
    rw [app_pos (by unfold most; simp only [List.length_cons, List.length_nil]; omega), w64 (by omega) (by omega)]
    have := ih (acc ++ [TBinding.mk a (valOf x a)]) (by simp; omega)
    simp only [Option.bind_some]
    rw [show ((i : Int) + 1) = ((i + 1 : Nat) : Int) by omega, this]
    simp
theorem s_save_eq (x : TScope) (ns : List ByteArray) (h : x.Vars.length ≤ 1048576) (hn : ns.length ≤ 1048576) : s_SaveNames_l1 ns x [] 0 = if ns.all isName = true then some (.inl (ns.map fun n => TBinding.mk n (valOf x n))) else some (.inr []) := by
  have key := list_ind ns (fun i rest => ∀ acc : List TBinding, acc.length = i → s_SaveNames_l1 ns x acc (i : Int) = if rest.all isName = true then some (.inl (acc ++ rest.map fun n => TBinding.mk n (valOf x n))) else some (.inr [])) ?_ ?_
  · have := key [] rfl
    rw [show ((0 : Nat) : Int) = 0 from rfl] at this
    rw [this]; rfl
  · intro acc ha
    rw [s_SaveNames_l1.eq_1, if_neg (by omega)]; simp
  · intro i a rest hi hg hd ih acc ha
    rw [s_SaveNames_l1.eq_1, if_pos (by omega)]
    simp only [idx_nat, hg, s_value_eq x a h, s_IsName_eq, Option.bind_eq_bind, Option.bind_some]
    rw [app_pos (by unfold most; simp only [List.length_cons, List.length_nil]; omega), w64 (by omega) (by omega)]
    have := ih (acc ++ [TBinding.mk a (valOf x a)]) (by simp; omega)
    simp only [Option.bind_some]
    rw [show ((i : Int) + 1) = ((i + 1 : Nat) : Int) by omega, this]
    have hc : (a :: rest).all isName = (isName a && rest.all isName) := List.all_cons
    cases h1 : isName a with
    | false => rw [if_neg (by simp), if_neg (by rw [hc, h1]; simp)]
    | true =>
      rw [if_pos rfl]
      cases h2 : rest.all isName with
      | false => rw [if_neg (by simp), if_neg (by rw [hc, h2]; simp)]
      | true => rw [if_pos rfl, if_pos (by rw [hc, h1, h2]; rfl)]; simp
noncomputable def savedP (x : TScope) (ns : List ByteArray) : List TBinding := if ScopeOK x ∧ ns.all isName = true then ns.map fun n => TBinding.mk n (valOf x n) else []
theorem i_SaveNames_eq (x : TScope) (ns : List ByteArray) (h : TScope.n x ≤ 1048576) (hn : ns.length ≤ 1048576) : i_SaveNames x ns = some (savedP x ns) := by
  unfold i_SaveNames savedP
  rw [i_ValidScope_eq x h, i_areAll_string_eq ns (by omega)]
  simp only [TScope.n] at h
  simp only [Option.bind_eq_bind, Option.bind_some]
  by_cases hS : ScopeOK x
  · rw [if_pos (decide_eq_true hS), i_save_eq x ns (by omega) hn hS.2.1.1]
    by_cases hA : ns.all isName = true
    · rw [if_pos hA, if_pos ⟨hS, hA⟩]; rfl
    · rw [if_neg hA, if_neg (fun q => hA q.2)]
  · rw [if_neg (by rw [decide_eq_false hS]; simp), if_neg (fun q => hS q.1)]
theorem s_SaveNames_eq (x : TScope) (ns : List ByteArray) (h : TScope.n x ≤ 1048576) (hn : ns.length ≤ 1048576) : s_SaveNames x ns = some (savedP x ns) := by
  unfold s_SaveNames savedP
  rw [s_ValidScope_eq x h]
  simp only [TScope.n] at h
  rw [s_save_eq x ns (by omega) hn]
  simp only [Option.bind_eq_bind, Option.bind_some]
  by_cases hS : ScopeOK x
  · rw [if_pos (decide_eq_true hS)]
    by_cases hA : ns.all isName = true
    · rw [if_pos hA, if_pos ⟨hS, hA⟩]; rfl
    · rw [if_neg hA, if_neg (fun q => hA q.2)]; rfl
  · rw [if_neg (by rw [decide_eq_false hS]; simp), if_neg (fun q => hS q.1)]
end Go.Vx.SaZ
