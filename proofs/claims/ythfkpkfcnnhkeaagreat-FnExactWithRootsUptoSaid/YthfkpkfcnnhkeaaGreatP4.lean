/-
  Scopes that are valid.
-/

import Derived.Test.YthfkpkfcnnhkeaaGreatP3
set_option linter.unusedVariables false
set_option linter.unusedSimpArgs false
namespace Go.Vx.WrZ
set_option linter.unusedVariables false
open Classical
theorem lsum_len {α : Type} (f : α → Nat) (xs : List α) {a : α} (h : a ∈ xs) : f a ≤ lsum f xs := by
  induction xs with
  | nil => cases h
  | cons x r ih =>
    rw [lsum_cons]
    rcases List.mem_cons.1 h with e | e
    · subst e; omega
    · have := ih e; omega
def FnOK (f : TFunction) : Prop := isName f.Name = true ∧ isName f.Label = true ∧ f.Params.length ≤ 6 ∧ f.Locals.length ≤ 6 ∧ NamesOK (f.Params ++ f.Locals)
def TypeOK (t : TRecordType) : Prop := isName t.Name = true ∧ 1 ≤ t.Fields.length ∧ t.Fields.length ≤ 6 ∧ NamesOK t.Fields
def BindOK (b : TBinding) : Prop := isName b.Name = true ∧ vOK b.Value = true ∧ isNul b.Value = false
theorem all_name (l : List ByteArray) : (l.all isName = true) ↔ ∀ x ∈ l, isName x = true := List.all_eq_true
theorem i_fn_eq (f : TFunction) (h : f.Params.length + f.Locals.length ≤ 1048576) : i_Function_isValid f = some (decide (FnOK f)) := by
  unfold i_Function_isValid i_Function_isValid_j1 slices_Concat_string_string slices_Clone_string_string
  rw [chk_pos (show f.Params.length + f.Locals.length ≤ most by unfold most; omega)]
  have hl : (f.Params ++ f.Locals).length = f.Params.length + f.Locals.length := List.length_append
  obtain ⟨r, hr, hrl⟩ := sorted_eq (f.Params ++ f.Locals) (by omega)
  simp only [Option.bind_eq_bind, Option.bind_some]
  rw [chk_pos (show (f.Params ++ f.Locals).length ≤ most by unfold most; omega), i_areAll_string_eq _ (by omega)]
  simp only [Option.bind_some, i_IsName_eq, hr]
  have hA := all_name (f.Params ++ f.Locals)
  by_cases h1 : isName f.Name = true
  · by_cases h2 : isName f.Label = true
    · by_cases h3 : f.Params.length ≤ 6
      · by_cases h4 : f.Locals.length ≤ 6
        · by_cases h5 : (f.Params ++ f.Locals).all isName = true
          · have e : ((r.length : Int) = ((f.Params ++ f.Locals).length : Int)) ↔ (f.Params ++ f.Locals).Nodup := by rw [← hrl]; omega
            have h5' := hA.1 h5
            rw [if_pos (show (f.Params.length : Int) ≤ 6 by omega)]
            simp only [h1, h2, if_true]
            rw [if_pos (decide_eq_true (show (f.Locals.length : Int) ≤ 6 by omega)), if_pos h5]
            exact congrArg some (decide_eq_decide.2 (by rw [e]; exact ⟨fun q => ⟨h1, h2, h3, h4, h5', q⟩, fun q => q.2.2.2.2.2⟩))
          · have hn : ¬ FnOK f := fun q => h5 (hA.2 q.2.2.2.2.1)
            rw [decide_eq_false hn, if_pos (show (f.Params.length : Int) ≤ 6 by omega)]
            simp only [h1, h2, if_true]
            rw [if_pos (decide_eq_true (show (f.Locals.length : Int) ≤ 6 by omega)), if_neg h5]
        · rw [if_pos (show (f.Params.length : Int) ≤ 6 by omega)]
          simp only [h1, h2, if_true]
          rw [if_neg (by rw [decide_eq_false (show ¬ (f.Locals.length : Int) ≤ 6 by omega)]; simp)]
          exact congrArg some (decide_eq_false (fun q : FnOK f => h4 q.2.2.2.1)).symm
      · rw [if_neg (show ¬ (f.Params.length : Int) ≤ 6 by omega)]
        simp only [h1, h2, if_true]
        rw [if_neg (by simp)]
        exact congrArg some (decide_eq_false (fun q : FnOK f => h3 q.2.2.1)).symm
    · rw [decide_eq_false (fun q : FnOK f => h2 q.2.1)]
      simp only [h1, h2, if_true]
      split <;> rfl
  · rw [decide_eq_false (fun q : FnOK f => h1 q.1)]
    simp only [h1]
    split <;> rfl
theorem i_type_eq (t : TRecordType) (h : t.Fields.length ≤ 1048576) : i_RecordType_isValid t = some (decide (TypeOK t)) := by
  unfold i_RecordType_isValid i_areFields i_areFields_j1 slices_Clone_string_string
  obtain ⟨r, hr, hrl⟩ := sorted_eq t.Fields h
  rw [chk_pos (show t.Fields.length ≤ most by unfold most; omega), i_areAll_string_eq _ (by omega)]
  simp only [Option.bind_eq_bind, Option.bind_some, i_IsName_eq, hr]
  have hA := all_name t.Fields
  by_cases h1 : isName t.Name = true
  · rw [if_pos h1]
    by_cases h2 : 1 ≤ t.Fields.length
    · rw [if_neg (by omega)]
      by_cases h3 : t.Fields.length ≤ 6
      · rw [if_neg (by omega)]
        by_cases h5 : t.Fields.all isName = true
        · rw [if_pos h5]
          have e : ((r.length : Int) = (t.Fields.length : Int)) ↔ t.Fields.Nodup := by rw [← hrl]; omega
          exact congrArg some (decide_eq_decide.2 (by rw [e]; exact ⟨fun q => ⟨h1, h2, h3, hA.1 h5, q⟩, fun q => q.2.2.2.2⟩))
        · rw [if_neg h5, decide_eq_false (fun q : TypeOK t => h5 (hA.2 q.2.2.2.1))]; rfl
      · rw [if_pos (by omega), decide_eq_false (fun q : TypeOK t => h3 q.2.2.1)]; rfl
    · rw [if_pos (by omega), decide_eq_false (fun q : TypeOK t => h2 q.2.1)]; rfl
  · rw [if_neg h1, decide_eq_false (fun q : TypeOK t => h1 q.1)]
theorem i_bind_eq (b : TBinding) : i_Binding_isValid b = some (decide (BindOK b)) := by
  unfold i_Binding_isValid
  simp only [i_IsName_eq, i_ValidValue_eq, i_IsNull_eq, Option.bind_eq_bind, Option.bind_some]
  have hP : BindOK b ↔ (isName b.Name = true ∧ vOK b.Value = true ∧ isNul b.Value = false) := Iff.rfl
  simp only [hP]
  cases isName b.Name <;> cases vOK b.Value <;> cases isNul b.Value <;> simp
theorem s_fn_eq (f : TFunction) (h : f.Params.length + f.Locals.length ≤ 1048576) : s_l18Function f = some (decide (FnOK f)) := by
  unfold s_l18Function s_l18Function_j1
  rw [chk_pos (show f.Params.length ≤ most by unfold most; omega), app_pos (show f.Params.length + f.Locals.length ≤ most by unfold most; omega)]
  simp only [Option.bind_eq_bind, Option.bind_some, s_IsName_eq]
  rw [s_names_eq _ (by rw [List.length_append]; exact h)]
  by_cases h1 : isName f.Name = true
  · rw [if_pos h1]
    by_cases h2 : isName f.Label = true
    · rw [if_pos h2]
      by_cases h3 : f.Params.length ≤ 6
      · rw [if_neg (by omega)]
        by_cases h4 : f.Locals.length ≤ 6
        · rw [if_neg (by omega)]
          exact congrArg some (decide_eq_decide.2 ⟨fun q => ⟨h1, h2, h3, h4, q⟩, fun q => q.2.2.2.2⟩)
        · rw [if_pos (by omega), decide_eq_false (fun q : FnOK f => h4 q.2.2.2.1)]
      · rw [if_pos (by omega), decide_eq_false (fun q : FnOK f => h3 q.2.2.1)]
    · rw [if_neg h2, decide_eq_false (fun q : FnOK f => h2 q.2.1)]
  · rw [if_neg h1, decide_eq_false (fun q : FnOK f => h1 q.1)]
theorem s_type_eq (t : TRecordType) (h : t.Fields.length ≤ 1048576) : s_l18Type t = some (decide (TypeOK t)) := by
  unfold s_l18Type
  simp only [Option.bind_eq_bind, Option.bind_some, s_IsName_eq, s_in_eq]
  rw [s_names_eq _ h]
  by_cases h1 : isName t.Name = true
  · rw [if_pos h1]
    by_cases h2 : 1 ≤ t.Fields.length ∧ t.Fields.length ≤ 6
    · rw [if_pos (decide_eq_true (by omega))]
      exact congrArg some (decide_eq_decide.2 ⟨fun q => ⟨h1, h2.1, h2.2, q⟩, fun q => q.2.2.2⟩)
    · rw [if_neg (by rw [decide_eq_false (by omega)]; simp), decide_eq_false (fun q : TypeOK t => h2 ⟨q.2.1, q.2.2.1⟩)]
  · rw [if_neg h1, decide_eq_false (fun q : TypeOK t => h1 q.1)]
def ScopeOK (x : TScope) : Prop := (x.Vars.length ≤ 40 ∧ x.Functions.length ≤ 12 ∧ x.Types.length ≤ 8) ∧ (Srt TBinding.Name x.Vars ∧ Srt TFunction.Name x.Functions ∧ Srt TRecordType.Name x.Types) ∧ (∀ b ∈ x.Vars, BindOK b) ∧ (∀ b ∈ x.Functions, FnOK b) ∧ ∀ b ∈ x.Types, TypeOK b
theorem sort_loop {α : Type} (nm : α → ByteArray) (xs : List α) (hs : xs.length ≤ 1048576) (L : Int → Option (Unit ⊕ Bool))
    (hL : ∀ i, L i = if i < (xs.length : Int) then (idx xs (IntKind.wrap .i64 (i - 1)) >>= fun a => some (nm a) >>= fun r => idx xs i >>= fun b => some (nm b) >>= fun q => if (Op.bytesLess r.toList q.toList) = true then L (IntKind.wrap .i64 (i + 1)) else some (.inr false)) else some (.inl ())) :
    L 1 = if Srt nm xs then some (.inl ()) else some (.inr false) := by
  cases xs with
  | nil =>
    rw [hL, if_neg (by simp), if_pos]
    intro i a b h1 h2
    cases h1
  | cons x0 r =>
    have hh := allP_loop (x0 :: r) L false (fun i b => ∀ a, (x0 :: r)[i - 1]? = some a → ltB (nm a) (nm b) = true) 1 (by simp) ?_ ?_ ?_
    · rw [show ((1 : Nat) : Int) = 1 from rfl] at hh
      rw [hh]
      have hiff : (∀ (i : Nat) b, 1 ≤ i → (x0 :: r)[i]? = some b → ∀ a, (x0 :: r)[i - 1]? = some a → ltB (nm a) (nm b) = true) ↔ Srt nm (x0 :: r) := by
        constructor
        · intro h i a b h1 h2; exact h (i + 1) b (by omega) h2 a h1
        · intro h i b hi h1 a h2
          refine h (i - 1) a b h2 ?_
          rw [show i - 1 + 1 = i by omega]; exact h1
      by_cases hS : Srt nm (x0 :: r)
      · rw [if_pos hS, if_pos (hiff.2 hS)]
      · rw [if_neg hS, if_neg (fun h => hS (hiff.1 h))]
    · intro i b h1 h2 hg hp
      have hg1 := List.getElem?_eq_getElem (show i - 1 < (x0 :: r).length by omega)
      rw [hL, if_pos (by omega), w64 (by omega) (by omega), show ((i : Int) - 1) = ((i - 1 : Nat) : Int) by omega, idx_nat, idx_nat, hg, hg1]
      have this : Op.bytesLess (nm (x0 :: r)[i - 1]).toList (nm b).toList = true := hp _ hg1
      simp only [Option.bind_eq_bind, Option.bind_some]
      rw [if_pos this, w64 (by omega) (by omega)]
    · intro i b h1 h2 hg hp
      have hg1 := List.getElem?_eq_getElem (show i - 1 < (x0 :: r).length by omega)
      rw [hL, if_pos (by omega), w64 (by omega) (by omega), show ((i : Int) - 1) = ((i - 1 : Nat) : Int) by omega, idx_nat, idx_nat, hg, hg1]
      simp only [Option.bind_eq_bind, Option.bind_some]
      rw [if_neg]
      intro e
      refine hp fun a ha => ?_
      rw [hg1] at ha; cases ha; exact e
    · rw [hL, if_neg (by omega)]
theorem i_sortB_eq (l : List TBinding) (h : l.length ≤ 1048576) : i_isSorted_Binding l = some (decide (Srt TBinding.Name l)) := by
  unfold i_isSorted_Binding
  rw [sort_loop TBinding.Name l h (i_isSorted_Binding_l1 l) (fun i => i_isSorted_Binding_l1.eq_1 ..)]
  by_cases hS : Srt TBinding.Name l
  · rw [if_pos hS, decide_eq_true hS]; rfl
  · rw [if_neg hS, decide_eq_false hS]; rfl
theorem i_sortF_eq (l : List TFunction) (h : l.length ≤ 1048576) : i_isSorted_Function l = some (decide (Srt TFunction.Name l)) := by
  unfold i_isSorted_Function
  rw [sort_loop TFunction.Name l h (i_isSorted_Function_l1 l) (fun i => i_isSorted_Function_l1.eq_1 ..)]
  by_cases hS : Srt TFunction.Name l
  · rw [if_pos hS, decide_eq_true hS]; rfl
  · rw [if_neg hS, decide_eq_false hS]; rfl
theorem i_sortT_eq (l : List TRecordType) (h : l.length ≤ 1048576) : i_isSorted_RecordType l = some (decide (Srt TRecordType.Name l)) := by
  unfold i_isSorted_RecordType
  rw [sort_loop TRecordType.Name l h (i_isSorted_RecordType_l1 l) (fun i => i_isSorted_RecordType_l1.eq_1 ..)]
  by_cases hS : Srt TRecordType.Name l
  · rw [if_pos hS, decide_eq_true hS]; rfl
  · rw [if_neg hS, decide_eq_false hS]; rfl
theorem fn_size (f : TFunction) {m : Nat} (h : TFunction.n f ≤ m) : f.Params.length + f.Locals.length ≤ m := by simp only [TFunction.n] at h; omega
theorem type_size (t : TRecordType) {m : Nat} (h : TRecordType.n t ≤ m) : t.Fields.length ≤ m := by simp only [TRecordType.n] at h; omega
theorem decall {α : Type} (l : List α) (p : α → Prop) : (l.all fun a => decide (p a)) = decide (∀ a ∈ l, p a) := by
  rw [Bool.eq_iff_iff, List.all_eq_true, decide_eq_true_iff]
  exact ⟨fun h a ha => of_decide_eq_true (h a ha), fun h a ha => decide_eq_true (h a ha)⟩
theorem i_allB_eq (l : List TBinding) (h : l.length ≤ 1048576) : i_areAll_Binding l = some (decide (∀ b ∈ l, BindOK b)) := by
  unfold i_areAll_Binding
  rw [all_loop l l.length (i_areAll_Binding_l1 l l l.length) i_Binding_isValid (fun b => decide (BindOK b)) (fun i => i_areAll_Binding_l1.eq_1 ..) rfl (by omega) (fun a _ => i_bind_eq a), decall]
  by_cases hS : ∀ b ∈ l, BindOK b
  · rw [decide_eq_true hS]; rfl
  · rw [decide_eq_false hS]; rfl
theorem i_allF_eq (l : List TFunction) (h : l.length + lsum TFunction.n l ≤ 1048576) : i_areAll_Function l = some (decide (∀ b ∈ l, FnOK b)) := by
  unfold i_areAll_Function
  rw [all_loop l l.length (i_areAll_Function_l1 l l l.length) i_Function_isValid (fun b => decide (FnOK b)) (fun i => i_areAll_Function_l1.eq_1 ..) rfl (by omega) (fun a ha => i_fn_eq a (fn_size a (by have := lsum_len TFunction.n l ha; omega))), decall]
  by_cases hS : ∀ b ∈ l, FnOK b
  · rw [decide_eq_true hS]; rfl
  · rw [decide_eq_false hS]; rfl
theorem i_allT_eq (l : List TRecordType) (h : l.length + lsum TRecordType.n l ≤ 1048576) : i_areAll_RecordType l = some (decide (∀ b ∈ l, TypeOK b)) := by
  unfold i_areAll_RecordType
  rw [all_loop l l.length (i_areAll_RecordType_l1 l l l.length) i_RecordType_isValid (fun b => decide (TypeOK b)) (fun i => i_areAll_RecordType_l1.eq_1 ..) rfl (by omega) (fun a ha => i_type_eq a (type_size a (by have := lsum_len TRecordType.n l ha; omega))), decall]
  by_cases hS : ∀ b ∈ l, TypeOK b
  · rw [decide_eq_true hS]; rfl
  · rw [decide_eq_false hS]; rfl
theorem i_ValidScope_eq (x : TScope) (h : TScope.n x ≤ 1048576) : i_ValidScope x = some (decide (ScopeOK x)) := by
  simp only [TScope.n] at h
  unfold i_ValidScope i_ValidScope_j2 i_ValidScope_j1
  rw [i_sortB_eq _ (by omega), i_sortF_eq _ (by omega), i_sortT_eq _ (by omega), i_allB_eq _ (by omega), i_allF_eq _ (by omega), i_allT_eq _ (by omega)]
  simp only [Option.bind_eq_bind, Option.bind_some]
  by_cases h1 : x.Vars.length ≤ 40
  · rw [if_neg (by omega)]
    by_cases h2 : x.Functions.length ≤ 12
    · rw [if_neg (by omega)]
      by_cases h3 : x.Types.length ≤ 8
      · rw [if_neg (by omega)]
        by_cases q1 : Srt TBinding.Name x.Vars
        · by_cases q2 : Srt TFunction.Name x.Functions
          · by_cases q3 : Srt TRecordType.Name x.Types
            · rw [decide_eq_true q1, decide_eq_true q2, decide_eq_true q3]
              simp only [if_true]
              by_cases q4 : ∀ b ∈ x.Vars, BindOK b
              · rw [if_pos (decide_eq_true q4)]
                by_cases q5 : ∀ b ∈ x.Functions, FnOK b
                · rw [if_pos (decide_eq_true q5)]
                  exact congrArg some (decide_eq_decide.2 ⟨fun q => ⟨⟨h1, h2, h3⟩, ⟨q1, q2, q3⟩, q4, q5, q⟩, fun q => q.2.2.2.2⟩)
                · rw [if_neg (by rw [decide_eq_false q5]; simp)]
                  exact congrArg some (decide_eq_false (fun q : ScopeOK x => q5 q.2.2.2.1)).symm
              · rw [if_neg (by rw [decide_eq_false q4]; simp)]
                exact congrArg some (decide_eq_false (fun q : ScopeOK x => q4 q.2.2.1)).symm
            · rw [decide_eq_true q1, decide_eq_true q2, decide_eq_false q3]
              exact congrArg some (decide_eq_false (fun q : ScopeOK x => q3 q.2.1.2.2)).symm
          · rw [decide_eq_true q1, decide_eq_false q2]
            exact congrArg some (decide_eq_false (fun q : ScopeOK x => q2 q.2.1.2.1)).symm
        · rw [decide_eq_false q1]
          exact congrArg some (decide_eq_false (fun q : ScopeOK x => q1 q.2.1.1)).symm
      · rw [if_pos (by omega), decide_eq_false (fun q : ScopeOK x => h3 q.1.2.2)]
    · rw [if_pos (by omega), decide_eq_false (fun q : ScopeOK x => h2 q.1.2.1)]
  · rw [if_pos (by omega), decide_eq_false (fun q : ScopeOK x => h1 q.1.1)]
end Go.Vx.WrZ
