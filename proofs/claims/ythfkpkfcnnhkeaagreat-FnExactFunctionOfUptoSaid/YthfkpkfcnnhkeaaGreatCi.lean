/-
  A scope's copy is the scope (the program).
-/

import Derived.Test.YthfkpkfcnnhkeaaGreatP5
set_option linter.unusedVariables false
set_option linter.unusedSimpArgs false
namespace Go.Vx.FuZ
set_option linter.unusedVariables false
theorem i_copyF (x z : TScope) (h : TScope.n x ≤ 1048576) (v : List TBinding) (t : List TRecordType) : i_Scope_copied_l1 x z x.Functions x.Functions.length (TScope.mk v [] t) 0 = some (TScope.mk v x.Functions t) := by
  simp only [TScope.n] at h
  have key := list_ind x.Functions (fun i rest => ∀ acc : List TFunction, acc.length = i → i_Scope_copied_l1 x z x.Functions x.Functions.length (TScope.mk v acc t) (i : Int) = some (TScope.mk v (acc ++ rest) t)) ?_ ?_
  · have := key [] rfl
    rw [show ((0 : Nat) : Int) = 0 from rfl] at this
    rw [this]; rfl
  · intro acc ha
    rw [i_Scope_copied_l1.eq_1, if_neg (by omega), List.append_nil]
  · intro i a rest hi hg hd ih acc ha
    have hm : a ∈ x.Functions := (List.getElem?_eq_some_iff.1 hg).2 ▸ List.getElem_mem hi
    have hs := fn_size a (m := 1048576) (by have := lsum_len TFunction.n x.Functions hm; omega)
    rw [i_Scope_copied_l1.eq_1, if_pos (by omega), idx_nat, hg]
    simp only [slices_Clone_string_string, Option.bind_eq_bind, Option.bind_some]
    rw [chk_pos (show a.Params.length ≤ most by unfold most; omega), chk_pos (show a.Locals.length ≤ most by unfold most; omega)]
    simp only [Option.bind_some]
    rw [app_pos (by unfold most; simp only [List.length_cons, List.length_nil]; omega), w64 (by omega) (by omega)]
    simp only [Option.bind_some]
    have := ih (acc ++ [a]) (by simp; omega)
    rw [show ((i : Int) + 1) = ((i + 1 : Nat) : Int) by omega]
    rw [List.append_assoc] at this
    exact this
theorem i_copyT (x z : TScope) (h : TScope.n x ≤ 1048576) (v : List TBinding) (f : List TFunction) : i_Scope_copied_l2 x z x.Types x.Types.length (TScope.mk v f []) 0 = some (TScope.mk v f x.Types) := by
  simp only [TScope.n] at h
  have key := list_ind x.Types (fun i rest => ∀ acc : List TRecordType, acc.length = i → i_Scope_copied_l2 x z x.Types x.Types.length (TScope.mk v f acc) (i : Int) = some (TScope.mk v f (acc ++ rest))) ?_ ?_
  · have := key [] rfl
    rw [show ((0 : Nat) : Int) = 0 from rfl] at this
    rw [this]; rfl
  · intro acc ha
    rw [i_Scope_copied_l2.eq_1, if_neg (by omega), List.append_nil]
  · intro i a rest hi hg hd ih acc ha
    have hm : a ∈ x.Types := (List.getElem?_eq_some_iff.1 hg).2 ▸ List.getElem_mem hi
    have hs := type_size a (m := 1048576) (by have := lsum_len TRecordType.n x.Types hm; omega)
    rw [i_Scope_copied_l2.eq_1, if_pos (by omega), idx_nat, hg]
    simp only [slices_Clone_string_string, Option.bind_eq_bind, Option.bind_some]
    rw [chk_pos (show a.Fields.length ≤ most by unfold most; omega)]
    simp only [Option.bind_some]
    rw [app_pos (by unfold most; simp only [List.length_cons, List.length_nil]; omega), w64 (by omega) (by omega)]
    simp only [Option.bind_some]
    have := ih (acc ++ [a]) (by simp; omega)
    rw [show ((i : Int) + 1) = ((i + 1 : Nat) : Int) by omega]
    rw [List.append_assoc] at this
    exact this
theorem i_copied_eq (x : TScope) (h : TScope.n x ≤ 1048576) : i_Scope_copied x = some x := by
  have h' := h
  simp only [TScope.n] at h'
  unfold i_Scope_copied slices_Clone_Binding_Binding
  rw [chk_pos (show x.Vars.length ≤ most by unfold most; omega)]
  simp only [Option.bind_eq_bind, Option.bind_some, i_copyF x _ h, i_copyT x _ h]
end Go.Vx.FuZ
