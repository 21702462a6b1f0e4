/-
  Values that were read, as the program's plain types.
-/
import Derived.Test.YthppbplieikhkaaGreatDoorVxD
import Derived.Test.YthppbplieikhkaaGreatDoorTypes
set_option linter.unusedVariables false
set_option linter.unusedSimpArgs false
namespace Go.Vx
set_option linter.unusedVariables false
set_option linter.unusedSimpArgs false
def ExP (i : Nat) (ds : List D) : Prop :=
 match i with
 | _ => False
def TValue.ty : Ty := .st [(.int .i64), (.int .i64), .str, (.int .i64)]
theorem TValue.of (ds : List D) (h : zbS ExP TValue.ty ds) : ∃ x : TValue, ds = TValue.c false x ∧ TValue.n x ≤ zbT ds := by
 simp only [TValue.ty, zbS, zij] at h
 obtain ⟨a0, b0, rfl, ⟨x0, rfl, _⟩, a1, b1, rfl, ⟨x1, rfl, _⟩, a2, b2, rfl, ⟨x2, rfl⟩, a3, b3, rfl, ⟨x3, rfl, _⟩, rfl⟩ := h
 skip
 refine ⟨⟨x0, x1, x2, x3⟩, ?_, ?_⟩
 ·simp only [TValue.c, List.cons_append, List.nil_append, List.append_nil]
 ·simp only [TValue.n, zdx, zbT, D.bulk] at *; omega
theorem TValue.ofE (cs : List D) (h : zbS ExP TValue.ty cs) : ∃ y : TValue, zdj TValue.ty cs = TValue.e false y ∧ TValue.n y + 1 ≤ (zdj TValue.ty cs).bulk := by
 obtain ⟨x, rfl, g⟩ := TValue.of cs h
 exact ⟨x, rfl, by simp only [TValue.ty, zdj, D.bulk] at *; omega⟩
def TBinding.ty : Ty := .st [.str, TValue.ty]
theorem TBinding.of (ds : List D) (h : zbS ExP TBinding.ty ds) : ∃ x : TBinding, ds = TBinding.c false x ∧ TBinding.n x ≤ zbT ds := by
 simp only [TBinding.ty, zbS, zij] at h
 obtain ⟨a0, b0, rfl, ⟨x0, rfl⟩, a1, b1, rfl, h1, rfl⟩ := h
 obtain ⟨x1, rfl, g1⟩ := TValue.of a1 h1
 refine ⟨⟨x0, x1⟩, ?_, ?_⟩
 ·simp only [TBinding.c, TValue.c, List.cons_append, List.nil_append, List.append_nil]
 ·simp only [TBinding.n, zdx, zbT, D.bulk] at *; omega
theorem TBinding.ofE (cs : List D) (h : zbS ExP TBinding.ty cs) : ∃ y : TBinding, zdj TBinding.ty cs = TBinding.e false y ∧ TBinding.n y + 1 ≤ (zdj TBinding.ty cs).bulk := by
 obtain ⟨x, rfl, g⟩ := TBinding.of cs h
 exact ⟨x, rfl, by simp only [TBinding.ty, zdj, D.bulk] at *; omega⟩
def TFunction.ty : Ty := .st [.str, (.sl .str 1), (.sl .str 1), .str]
theorem TFunction.of (ds : List D) (h : zbS ExP TFunction.ty ds) : ∃ x : TFunction, ds = TFunction.c false x ∧ TFunction.n x ≤ zbT ds := by
 simp only [TFunction.ty, zbS, zij] at h
 obtain ⟨a0, b0, rfl, ⟨x0, rfl⟩, a1, b1, rfl, ⟨y1, rfl, h1⟩, a2, b2, rfl, ⟨y2, rfl, h2⟩, a3, b3, rfl, ⟨x3, rfl⟩, rfl⟩ := h
 obtain ⟨x1, rfl, g1⟩ := zhL (Ex := ExP) D.str ByteArray.size .str zsF y1 h1
 obtain ⟨x2, rfl, g2⟩ := zhL (Ex := ExP) D.str ByteArray.size .str zsF y2 h2
 refine ⟨⟨x0, x1, x2, x3⟩, ?_, ?_⟩
 ·simp only [TFunction.c, List.cons_append, List.nil_append, List.append_nil]
 ·simp only [TFunction.n, zdx, zbT, D.bulk] at *; omega
theorem TFunction.ofE (cs : List D) (h : zbS ExP TFunction.ty cs) : ∃ y : TFunction, zdj TFunction.ty cs = TFunction.e false y ∧ TFunction.n y + 1 ≤ (zdj TFunction.ty cs).bulk := by
 obtain ⟨x, rfl, g⟩ := TFunction.of cs h
 exact ⟨x, rfl, by simp only [TFunction.ty, zdj, D.bulk] at *; omega⟩
def TRecordType.ty : Ty := .st [.str, (.sl .str 1)]
theorem TRecordType.of (ds : List D) (h : zbS ExP TRecordType.ty ds) : ∃ x : TRecordType, ds = TRecordType.c false x ∧ TRecordType.n x ≤ zbT ds := by
 simp only [TRecordType.ty, zbS, zij] at h
 obtain ⟨a0, b0, rfl, ⟨x0, rfl⟩, a1, b1, rfl, ⟨y1, rfl, h1⟩, rfl⟩ := h
 obtain ⟨x1, rfl, g1⟩ := zhL (Ex := ExP) D.str ByteArray.size .str zsF y1 h1
 refine ⟨⟨x0, x1⟩, ?_, ?_⟩
 ·simp only [TRecordType.c, List.cons_append, List.nil_append, List.append_nil]
 ·simp only [TRecordType.n, zdx, zbT, D.bulk] at *; omega
theorem TRecordType.ofE (cs : List D) (h : zbS ExP TRecordType.ty cs) : ∃ y : TRecordType, zdj TRecordType.ty cs = TRecordType.e false y ∧ TRecordType.n y + 1 ≤ (zdj TRecordType.ty cs).bulk := by
 obtain ⟨x, rfl, g⟩ := TRecordType.of cs h
 exact ⟨x, rfl, by simp only [TRecordType.ty, zdj, D.bulk] at *; omega⟩
def TScope.ty : Ty := .st [(.sl TBinding.ty 5), (.sl TFunction.ty 4), (.sl TRecordType.ty 2)]
theorem TScope.of (ds : List D) (h : zbS ExP TScope.ty ds) : ∃ x : TScope, ds = TScope.c false x ∧ TScope.n x ≤ zbT ds := by
 simp only [TScope.ty, zbS, zij] at h
 obtain ⟨a0, b0, rfl, ⟨y0, rfl, h0⟩, a1, b1, rfl, ⟨y1, rfl, h1⟩, a2, b2, rfl, ⟨y2, rfl, h2⟩, rfl⟩ := h
 obtain ⟨x0, rfl, g0⟩ := zhL (Ex := ExP) (TBinding.e false) TBinding.n TBinding.ty TBinding.ofE y0 h0
 obtain ⟨x1, rfl, g1⟩ := zhL (Ex := ExP) (TFunction.e false) TFunction.n TFunction.ty TFunction.ofE y1 h1
 obtain ⟨x2, rfl, g2⟩ := zhL (Ex := ExP) (TRecordType.e false) TRecordType.n TRecordType.ty TRecordType.ofE y2 h2
 refine ⟨⟨x0, x1, x2⟩, ?_, ?_⟩
 ·simp only [TScope.c, List.cons_append, List.nil_append, List.append_nil]
 ·simp only [TScope.n, zdx, zbT, D.bulk] at *; omega
theorem TScope.ofE (cs : List D) (h : zbS ExP TScope.ty cs) : ∃ y : TScope, zdj TScope.ty cs = TScope.e false y ∧ TScope.n y + 1 ≤ (zdj TScope.ty cs).bulk := by
 obtain ⟨x, rfl, g⟩ := TScope.of cs h
 exact ⟨x, rfl, by simp only [TScope.ty, zdj, D.bulk] at *; omega⟩
end Go.Vx
