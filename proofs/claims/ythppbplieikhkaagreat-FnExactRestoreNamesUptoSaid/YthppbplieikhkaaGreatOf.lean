/-
  Values that were read, as the program's plain types.
-/
import Derived.Test.YthppbplieikhkaaGreatVxC
import Derived.Test.YthppbplieikhkaaGreatTypes
set_option linter.unusedVariables false
set_option linter.unusedSimpArgs false
namespace Go.Vx
set_option linter.unusedVariables false
set_option linter.unusedSimpArgs false
def TValue.ty : Ty := .st [(.int .i64), (.int .i64), .str, (.int .i64)]
theorem TValue.of (ds : List D) (h : zbo TValue.ty ds) : ∃ x : TValue, ds = TValue.c false x ∧ TValue.n x ≤ zby ds := by
 simp only [TValue.ty, zbo, zgU] at h
 obtain ⟨a0, b0, rfl, ⟨x0, rfl, _⟩, a1, b1, rfl, ⟨x1, rfl, _⟩, a2, b2, rfl, ⟨x2, rfl⟩, a3, b3, rfl, ⟨x3, rfl, _⟩, rfl⟩ := h
 skip
 refine ⟨⟨x0, x1, x2, x3⟩, ?_, ?_⟩
 ·simp only [TValue.c, List.cons_append, List.nil_append, List.append_nil]
 ·simp only [TValue.n, zcc, zby, D.bulk] at *; omega
theorem TValue.ofE (cs : List D) (h : zbo TValue.ty cs) : ∃ y : TValue, zcm TValue.ty cs = TValue.e false y ∧ TValue.n y + 1 ≤ (zcm TValue.ty cs).bulk := by
 obtain ⟨x, rfl, g⟩ := TValue.of cs h
 exact ⟨x, rfl, by simp only [TValue.ty, zcm, D.bulk] at *; omega⟩
def TBinding.ty : Ty := .st [.str, TValue.ty]
theorem TBinding.of (ds : List D) (h : zbo TBinding.ty ds) : ∃ x : TBinding, ds = TBinding.c false x ∧ TBinding.n x ≤ zby ds := by
 simp only [TBinding.ty, zbo, zgU] at h
 obtain ⟨a0, b0, rfl, ⟨x0, rfl⟩, a1, b1, rfl, h1, rfl⟩ := h
 obtain ⟨x1, rfl, g1⟩ := TValue.of a1 h1
 refine ⟨⟨x0, x1⟩, ?_, ?_⟩
 ·simp only [TBinding.c, TValue.c, List.cons_append, List.nil_append, List.append_nil]
 ·simp only [TBinding.n, zcc, zby, D.bulk] at *; omega
theorem TBinding.ofE (cs : List D) (h : zbo TBinding.ty cs) : ∃ y : TBinding, zcm TBinding.ty cs = TBinding.e false y ∧ TBinding.n y + 1 ≤ (zcm TBinding.ty cs).bulk := by
 obtain ⟨x, rfl, g⟩ := TBinding.of cs h
 exact ⟨x, rfl, by simp only [TBinding.ty, zcm, D.bulk] at *; omega⟩
def TFunction.ty : Ty := .st [.str, (.sl .str 1), (.sl .str 1), .str]
theorem TFunction.of (ds : List D) (h : zbo TFunction.ty ds) : ∃ x : TFunction, ds = TFunction.c false x ∧ TFunction.n x ≤ zby ds := by
 simp only [TFunction.ty, zbo, zgU] at h
 obtain ⟨a0, b0, rfl, ⟨x0, rfl⟩, a1, b1, rfl, ⟨y1, rfl, h1⟩, a2, b2, rfl, ⟨y2, rfl, h2⟩, a3, b3, rfl, ⟨x3, rfl⟩, rfl⟩ := h
 obtain ⟨x1, rfl, g1⟩ := zew D.str ByteArray.size .str zrr y1 h1
 obtain ⟨x2, rfl, g2⟩ := zew D.str ByteArray.size .str zrr y2 h2
 refine ⟨⟨x0, x1, x2, x3⟩, ?_, ?_⟩
 ·simp only [TFunction.c, List.cons_append, List.nil_append, List.append_nil]
 ·simp only [TFunction.n, zcc, zby, D.bulk] at *; omega
theorem TFunction.ofE (cs : List D) (h : zbo TFunction.ty cs) : ∃ y : TFunction, zcm TFunction.ty cs = TFunction.e false y ∧ TFunction.n y + 1 ≤ (zcm TFunction.ty cs).bulk := by
 obtain ⟨x, rfl, g⟩ := TFunction.of cs h
 exact ⟨x, rfl, by simp only [TFunction.ty, zcm, D.bulk] at *; omega⟩
def TRecordType.ty : Ty := .st [.str, (.sl .str 1)]
theorem TRecordType.of (ds : List D) (h : zbo TRecordType.ty ds) : ∃ x : TRecordType, ds = TRecordType.c false x ∧ TRecordType.n x ≤ zby ds := by
 simp only [TRecordType.ty, zbo, zgU] at h
 obtain ⟨a0, b0, rfl, ⟨x0, rfl⟩, a1, b1, rfl, ⟨y1, rfl, h1⟩, rfl⟩ := h
 obtain ⟨x1, rfl, g1⟩ := zew D.str ByteArray.size .str zrr y1 h1
 refine ⟨⟨x0, x1⟩, ?_, ?_⟩
 ·simp only [TRecordType.c, List.cons_append, List.nil_append, List.append_nil]
 ·simp only [TRecordType.n, zcc, zby, D.bulk] at *; omega
theorem TRecordType.ofE (cs : List D) (h : zbo TRecordType.ty cs) : ∃ y : TRecordType, zcm TRecordType.ty cs = TRecordType.e false y ∧ TRecordType.n y + 1 ≤ (zcm TRecordType.ty cs).bulk := by
 obtain ⟨x, rfl, g⟩ := TRecordType.of cs h
 exact ⟨x, rfl, by simp only [TRecordType.ty, zcm, D.bulk] at *; omega⟩
def TScope.ty : Ty := .st [(.sl TBinding.ty 5), (.sl TFunction.ty 4), (.sl TRecordType.ty 2)]
theorem TScope.of (ds : List D) (h : zbo TScope.ty ds) : ∃ x : TScope, ds = TScope.c false x ∧ TScope.n x ≤ zby ds := by
 simp only [TScope.ty, zbo, zgU] at h
 obtain ⟨a0, b0, rfl, ⟨y0, rfl, h0⟩, a1, b1, rfl, ⟨y1, rfl, h1⟩, a2, b2, rfl, ⟨y2, rfl, h2⟩, rfl⟩ := h
 obtain ⟨x0, rfl, g0⟩ := zew (TBinding.e false) TBinding.n TBinding.ty TBinding.ofE y0 h0
 obtain ⟨x1, rfl, g1⟩ := zew (TFunction.e false) TFunction.n TFunction.ty TFunction.ofE y1 h1
 obtain ⟨x2, rfl, g2⟩ := zew (TRecordType.e false) TRecordType.n TRecordType.ty TRecordType.ofE y2 h2
 refine ⟨⟨x0, x1, x2⟩, ?_, ?_⟩
 ·simp only [TScope.c, List.cons_append, List.nil_append, List.append_nil]
 ·simp only [TScope.n, zcc, zby, D.bulk] at *; omega
theorem TScope.ofE (cs : List D) (h : zbo TScope.ty cs) : ∃ y : TScope, zcm TScope.ty cs = TScope.e false y ∧ TScope.n y + 1 ≤ (zcm TScope.ty cs).bulk := by
 obtain ⟨x, rfl, g⟩ := TScope.of cs h
 exact ⟨x, rfl, by simp only [TScope.ty, zcm, D.bulk] at *; omega⟩
def TObject.ty : Ty := .st [(.int .i64), (.int .i64), .str, (.int .i64), (.sl TValue.ty 4), (.sl TValue.ty 4), TValue.ty]
theorem TObject.of (ds : List D) (h : zbo TObject.ty ds) : ∃ x : TObject, ds = TObject.c false x ∧ TObject.n x ≤ zby ds := by
 simp only [TObject.ty, zbo, zgU] at h
 obtain ⟨a0, b0, rfl, ⟨x0, rfl, _⟩, a1, b1, rfl, ⟨x1, rfl, _⟩, a2, b2, rfl, ⟨x2, rfl⟩, a3, b3, rfl, ⟨x3, rfl, _⟩, a4, b4, rfl, ⟨y4, rfl, h4⟩, a5, b5, rfl, ⟨y5, rfl, h5⟩, a6, b6, rfl, h6, rfl⟩ := h
 obtain ⟨x4, rfl, g4⟩ := zew (TValue.e false) TValue.n TValue.ty TValue.ofE y4 h4
 obtain ⟨x5, rfl, g5⟩ := zew (TValue.e false) TValue.n TValue.ty TValue.ofE y5 h5
 obtain ⟨x6, rfl, g6⟩ := TValue.of a6 h6
 refine ⟨⟨x0, x1, x2, x3, x4, x5, x6⟩, ?_, ?_⟩
 ·simp only [TObject.c, TValue.c, List.cons_append, List.nil_append, List.append_nil]
 ·simp only [TObject.n, zcc, zby, D.bulk] at *; omega
theorem TObject.ofE (cs : List D) (h : zbo TObject.ty cs) : ∃ y : TObject, zcm TObject.ty cs = TObject.e false y ∧ TObject.n y + 1 ≤ (zcm TObject.ty cs).bulk := by
 obtain ⟨x, rfl, g⟩ := TObject.of cs h
 exact ⟨x, rfl, by simp only [TObject.ty, zcm, D.bulk] at *; omega⟩
def THeap.ty : Ty := .st [(.int .i64), (.sl TObject.ty 10)]
theorem THeap.of (ds : List D) (h : zbo THeap.ty ds) : ∃ x : THeap, ds = THeap.c false x ∧ THeap.n x ≤ zby ds := by
 simp only [THeap.ty, zbo, zgU] at h
 obtain ⟨a0, b0, rfl, ⟨x0, rfl, _⟩, a1, b1, rfl, ⟨y1, rfl, h1⟩, rfl⟩ := h
 obtain ⟨x1, rfl, g1⟩ := zew (TObject.e false) TObject.n TObject.ty TObject.ofE y1 h1
 refine ⟨⟨x0, x1⟩, ?_, ?_⟩
 ·simp only [THeap.c, List.cons_append, List.nil_append, List.append_nil]
 ·simp only [THeap.n, zcc, zby, D.bulk] at *; omega
theorem THeap.ofE (cs : List D) (h : zbo THeap.ty cs) : ∃ y : THeap, zcm THeap.ty cs = THeap.e false y ∧ THeap.n y + 1 ≤ (zcm THeap.ty cs).bulk := by
 obtain ⟨x, rfl, g⟩ := THeap.of cs h
 exact ⟨x, rfl, by simp only [THeap.ty, zcm, D.bulk] at *; omega⟩
end Go.Vx
