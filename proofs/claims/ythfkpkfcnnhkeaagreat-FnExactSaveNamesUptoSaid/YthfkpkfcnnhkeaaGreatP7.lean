/-
  SaveNames: the program's answer is the reference's.
-/

import Derived.Test.YthfkpkfcnnhkeaaGreatP6
set_option linter.unusedVariables false
set_option linter.unusedSimpArgs false
namespace Go.Vx.SaZ
set_option linter.unusedVariables false
open Classical
theorem lsum_le {α : Type} (f : α → Nat) (xs : List α) (c : Nat) (h : ∀ a ∈ xs, f a ≤ c) : lsum f xs ≤ xs.length * c := by
  induction xs with
  | nil => simp [lsum_nil]
  | cons x r ih =>
    rw [lsum_cons, List.length_cons, Nat.succ_mul]
    have h1 := h x (List.mem_cons_self ..)
    have h2 := ih fun a ha => h a (List.mem_cons_of_mem _ ha)
    omega
theorem vOK_size (v : TValue) (h : vOK v = true) : v.Text.size ≤ 1200 := by
  unfold vOK at h
  have he : (⟨#[]⟩ : ByteArray).size = 0 := rfl
  have hn : isName v.Text = true → v.Text.size ≤ 12 := by
    intro h
    unfold isName at h
    split at h
    · cases h
    · rename_i c r e
      have : (strI v.Text).length = v.Text.size := strI_len _
      rw [e] at this
      simp only [Bool.and_eq_true, decide_eq_true_eq] at h
      omega
  split at h
  · simp only [Bool.and_eq_true, decide_eq_true_eq] at h; omega
  · split at h
    · simp only [Bool.and_eq_true, decide_eq_true_eq] at h; rw [h.1.1]; omega
    · split at h
      · simp only [Bool.and_eq_true, decide_eq_true_eq] at h; omega
      · split at h
        · simp only [Bool.and_eq_true, decide_eq_true_eq] at h; rw [h.1.2]; omega
        · split at h
          · simp only [Bool.and_eq_true] at h; have := hn h.2; omega
          · cases h
theorem isName_size (s : ByteArray) (h : isName s = true) : s.size ≤ 12 := by
  unfold isName at h
  split at h
  · cases h
  · rename_i c r e
    have : (strI s).length = s.size := strI_len _
    rw [e] at this
    simp only [Bool.and_eq_true, decide_eq_true_eq] at h
    omega
theorem valOf_size (x : TScope) (nm : ByteArray) (h : ScopeOK x) : (valOf x nm).Text.size ≤ 1200 := by
  unfold valOf
  cases hf : x.Vars.find? fun a => decide (a.Name = nm) with
  | none => exact Nat.zero_le _
  | some a => exact vOK_size _ (h.2.2.1 a (List.mem_of_find?_eq_some hf)).2.1
theorem pure_law (x0 : TScope) (x1 : List ByteArray) (h0 : TScope.n x0 ≤ 1048576) (h1 : x1.length + lsum ByteArray.size x1 ≤ 1048576) : ∃ r, i_SaveNames x0 x1 = some r ∧ s_SaveNames x0 x1 = some r ∧ r.length + lsum TBinding.n r ≤ 34359738368 := by
  refine ⟨savedP x0 x1, i_SaveNames_eq x0 x1 h0 (by omega), s_SaveNames_eq x0 x1 h0 (by omega), ?_⟩
  unfold savedP
  split
  · rename_i h
    have hl := lsum_le TBinding.n (x1.map fun n => TBinding.mk n (valOf x0 n)) 1212 (by
      intro a ha
      obtain ⟨n, hn, rfl⟩ := List.mem_map.1 ha
      have e1 := isName_size n (List.all_eq_true.1 h.2 n hn)
      have e2 := valOf_size x0 n h.1
      simp only [TBinding.n, TValue.n]; omega)
    rw [List.length_map] at hl ⊢
    omega
  · simp [lsum_nil]
end Go.Vx.SaZ
