/-
  A scope's copy is the scope (the reference).
-/

import Derived.Test.YthfkpkfcnnhkeaaGreatP5
set_option linter.unusedVariables false
set_option linter.unusedSimpArgs false
namespace Go.Vx.WrZ
set_option linter.unusedVariables false
theorem s_ownFn_eq (a : TFunction) (h : a.Params.length + a.Locals.length ≤ 1048576) : s_l18OwnFunction a = some a := by
  unfold s_l18OwnFunction
  rw [chk_pos (show a.Params.length ≤ most by unfold most; omega), chk_pos (show a.Locals.length ≤ most by unfold most; omega)]
  rfl
theorem s_ownType_eq (a : TRecordType) (h : a.Fields.length ≤ 1048576) : s_l18OwnType a = some a := by
  unfold s_l18OwnType
  rw [chk_pos (show a.Fields.length ≤ most by unfold most; omega)]
  rfl
theorem s_ownF (x z : TScope) (h : TScope.n x ≤ 1048576) (v : List TBinding) (t : List TRecordType) : s_l18Own_l1 x z (TScope.mk v [] t) 0 = some (TScope.mk v x.Functions t) := by
  simp only [TScope.n] at h
  have key := list_ind x.Functions (fun i rest => ∀ acc : List TFunction, acc.length = i → s_l18Own_l1 x z (TScope.mk v acc t) (i : Int) = some (TScope.mk v (acc ++ rest) t)) ?_ ?_
  · have := key [] rfl
    rw [show ((0 : Nat) : Int) = 0 from rfl] at this
    rw [this]; rfl
  · intro acc ha
    rw [s_l18Own_l1.eq_1, if_neg (by omega), List.append_nil]
  · intro i a rest hi hg hd ih acc ha
    have hm : a ∈ x.Functions := (List.getElem?_eq_some_iff.1 hg).2 ▸ List.getElem_mem hi
    have hs := fn_size a (m := 1048576) (by have := lsum_len TFunction.n x.Functions hm; omega)
    rw [s_l18Own_l1.eq_1, if_pos (by omega), idx_nat, hg]
    simp only [s_ownFn_eq a hs, Option.bind_eq_bind, Option.bind_some]
    rw [app_pos (by unfold most; simp only [List.length_cons, List.length_nil]; omega), w64 (by omega) (by omega)]
    simp only [Option.bind_some]
    have := ih (acc ++ [a]) (by simp; omega)
    rw [show ((i : Int) + 1) = ((i + 1 : Nat) : Int) by omega]
    rw [List.append_assoc] at this
    exact this
theorem s_ownT (x z : TScope) (h : TScope.n x ≤ 1048576) (v : List TBinding) (f : List TFunction) : s_l18Own_l2 x z (TScope.mk v f []) 0 = some (TScope.mk v f x.Types) := by
  simp only [TScope.n] at h
  have key := list_ind x.Types (fun i rest => ∀ acc : List TRecordType, acc.length = i → s_l18Own_l2 x z (TScope.mk v f acc) (i : Int) = some (TScope.mk v f (acc ++ rest))) ?_ ?_
  · have := key [] rfl
    rw [show ((0 : Nat) : Int) = 0 from rfl] at this
    rw [this]; rfl
  · intro acc ha
    rw [s_l18Own_l2.eq_1, if_neg (by omega), List.append_nil]
  · intro i a rest hi hg hd ih acc ha
    have hm : a ∈ x.Types := (List.getElem?_eq_some_iff.1 hg).2 ▸ List.getElem_mem hi
    have hs := type_size a (m := 1048576) (by have := lsum_len TRecordType.n x.Types hm; omega)
    rw [s_l18Own_l2.eq_1, if_pos (by omega), idx_nat, hg]
    simp only [s_ownType_eq a hs, Option.bind_eq_bind, Option.bind_some]
    rw [app_pos (by unfold most; simp only [List.length_cons, List.length_nil]; omega), w64 (by omega) (by omega)]
    simp only [Option.bind_some]
    have := ih (acc ++ [a]) (by simp; omega)
    rw [show ((i : Int) + 1) = ((i + 1 : Nat) : Int) by omega]
    rw [List.append_assoc] at this
    exact this
theorem s_own_eq (x : TScope) (h : TScope.n x ≤ 1048576) : s_l18Own x = some x := by
  have h' := h
  simp only [TScope.n] at h'
  unfold s_l18Own
  rw [chk_pos (show x.Vars.length ≤ most by unfold most; omega)]
  simp only [Option.bind_eq_bind, Option.bind_some, s_ownF x _ h, s_ownT x _ h]
end Go.Vx.WrZ
