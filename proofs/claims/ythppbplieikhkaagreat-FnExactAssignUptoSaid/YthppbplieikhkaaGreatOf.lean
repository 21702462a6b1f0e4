/-
  Values that were read, as the program's plain types.
-/
import Derived.Test.YthppbplieikhkaaGreatVxC
import Derived.Test.YthppbplieikhkaaGreatTypes
set_option linter.unusedVariables false
set_option linter.unusedSimpArgs false
namespace Go.Vx
set_option linter.unusedVariables false
set_option linter.unusedSimpArgs false
def TValue.ty : Ty := .st [(.int .i64), (.int .i64), .str, (.int .i64)]
theorem TValue.of (ds : List D) (h : zbm TValue.ty ds) : ∃ x : TValue, ds = TValue.c false x ∧ TValue.n x ≤ zbx ds := by
 simp only [TValue.ty, zbm, zgE] at h
 obtain ⟨a0, b0, rfl, ⟨x0, rfl, _⟩, a1, b1, rfl, ⟨x1, rfl, _⟩, a2, b2, rfl, ⟨x2, rfl⟩, a3, b3, rfl, ⟨x3, rfl, _⟩, rfl⟩ := h
 skip
 refine ⟨⟨x0, x1, x2, x3⟩, ?_, ?_⟩
 ·simp only [TValue.c, List.cons_append, List.nil_append, List.append_nil]
 ·simp only [TValue.n, zbX, zbx, D.bulk] at *; omega
theorem TValue.ofE (cs : List D) (h : zbm TValue.ty cs) : ∃ y : TValue, zcg TValue.ty cs = TValue.e false y ∧ TValue.n y + 1 ≤ (zcg TValue.ty cs).bulk := by
 obtain ⟨x, rfl, g⟩ := TValue.of cs h
 exact ⟨x, rfl, by simp only [TValue.ty, zcg, D.bulk] at *; omega⟩
def TBinding.ty : Ty := .st [.str, TValue.ty]
theorem TBinding.of (ds : List D) (h : zbm TBinding.ty ds) : ∃ x : TBinding, ds = TBinding.c false x ∧ TBinding.n x ≤ zbx ds := by
 simp only [TBinding.ty, zbm, zgE] at h
 obtain ⟨a0, b0, rfl, ⟨x0, rfl⟩, a1, b1, rfl, h1, rfl⟩ := h
 obtain ⟨x1, rfl, g1⟩ := TValue.of a1 h1
 refine ⟨⟨x0, x1⟩, ?_, ?_⟩
 ·simp only [TBinding.c, TValue.c, List.cons_append, List.nil_append, List.append_nil]
 ·simp only [TBinding.n, zbX, zbx, D.bulk] at *; omega
theorem TBinding.ofE (cs : List D) (h : zbm TBinding.ty cs) : ∃ y : TBinding, zcg TBinding.ty cs = TBinding.e false y ∧ TBinding.n y + 1 ≤ (zcg TBinding.ty cs).bulk := by
 obtain ⟨x, rfl, g⟩ := TBinding.of cs h
 exact ⟨x, rfl, by simp only [TBinding.ty, zcg, D.bulk] at *; omega⟩
def TFunction.ty : Ty := .st [.str, (.sl .str 1), (.sl .str 1), .str]
theorem TFunction.of (ds : List D) (h : zbm TFunction.ty ds) : ∃ x : TFunction, ds = TFunction.c false x ∧ TFunction.n x ≤ zbx ds := by
 simp only [TFunction.ty, zbm, zgE] at h
 obtain ⟨a0, b0, rfl, ⟨x0, rfl⟩, a1, b1, rfl, ⟨y1, rfl, h1⟩, a2, b2, rfl, ⟨y2, rfl, h2⟩, a3, b3, rfl, ⟨x3, rfl⟩, rfl⟩ := h
 obtain ⟨x1, rfl, g1⟩ := zeD D.str ByteArray.size .str zrd y1 h1
 obtain ⟨x2, rfl, g2⟩ := zeD D.str ByteArray.size .str zrd y2 h2
 refine ⟨⟨x0, x1, x2, x3⟩, ?_, ?_⟩
 ·simp only [TFunction.c, List.cons_append, List.nil_append, List.append_nil]
 ·simp only [TFunction.n, zbX, zbx, D.bulk] at *; omega
theorem TFunction.ofE (cs : List D) (h : zbm TFunction.ty cs) : ∃ y : TFunction, zcg TFunction.ty cs = TFunction.e false y ∧ TFunction.n y + 1 ≤ (zcg TFunction.ty cs).bulk := by
 obtain ⟨x, rfl, g⟩ := TFunction.of cs h
 exact ⟨x, rfl, by simp only [TFunction.ty, zcg, D.bulk] at *; omega⟩
def TRecordType.ty : Ty := .st [.str, (.sl .str 1)]
theorem TRecordType.of (ds : List D) (h : zbm TRecordType.ty ds) : ∃ x : TRecordType, ds = TRecordType.c false x ∧ TRecordType.n x ≤ zbx ds := by
 simp only [TRecordType.ty, zbm, zgE] at h
 obtain ⟨a0, b0, rfl, ⟨x0, rfl⟩, a1, b1, rfl, ⟨y1, rfl, h1⟩, rfl⟩ := h
 obtain ⟨x1, rfl, g1⟩ := zeD D.str ByteArray.size .str zrd y1 h1
 refine ⟨⟨x0, x1⟩, ?_, ?_⟩
 ·simp only [TRecordType.c, List.cons_append, List.nil_append, List.append_nil]
 ·simp only [TRecordType.n, zbX, zbx, D.bulk] at *; omega
theorem TRecordType.ofE (cs : List D) (h : zbm TRecordType.ty cs) : ∃ y : TRecordType, zcg TRecordType.ty cs = TRecordType.e false y ∧ TRecordType.n y + 1 ≤ (zcg TRecordType.ty cs).bulk := by
 obtain ⟨x, rfl, g⟩ := TRecordType.of cs h
 exact ⟨x, rfl, by simp only [TRecordType.ty, zcg, D.bulk] at *; omega⟩
def TScope.ty : Ty := .st [(.sl TBinding.ty 5), (.sl TFunction.ty 4), (.sl TRecordType.ty 2)]
theorem TScope.of (ds : List D) (h : zbm TScope.ty ds) : ∃ x : TScope, ds = TScope.c false x ∧ TScope.n x ≤ zbx ds := by
 simp only [TScope.ty, zbm, zgE] at h
 obtain ⟨a0, b0, rfl, ⟨y0, rfl, h0⟩, a1, b1, rfl, ⟨y1, rfl, h1⟩, a2, b2, rfl, ⟨y2, rfl, h2⟩, rfl⟩ := h
 obtain ⟨x0, rfl, g0⟩ := zeD (TBinding.e false) TBinding.n TBinding.ty TBinding.ofE y0 h0
 obtain ⟨x1, rfl, g1⟩ := zeD (TFunction.e false) TFunction.n TFunction.ty TFunction.ofE y1 h1
 obtain ⟨x2, rfl, g2⟩ := zeD (TRecordType.e false) TRecordType.n TRecordType.ty TRecordType.ofE y2 h2
 refine ⟨⟨x0, x1, x2⟩, ?_, ?_⟩
 ·simp only [TScope.c, List.cons_append, List.nil_append, List.append_nil]
 ·simp only [TScope.n, zbX, zbx, D.bulk] at *; omega
theorem TScope.ofE (cs : List D) (h : zbm TScope.ty cs) : ∃ y : TScope, zcg TScope.ty cs = TScope.e false y ∧ TScope.n y + 1 ≤ (zcg TScope.ty cs).bulk := by
 obtain ⟨x, rfl, g⟩ := TScope.of cs h
 exact ⟨x, rfl, by simp only [TScope.ty, zcg, D.bulk] at *; omega⟩
def TObject.ty : Ty := .st [(.int .i64), (.int .i64), .str, (.int .i64), (.sl TValue.ty 4), (.sl TValue.ty 4), TValue.ty]
theorem TObject.of (ds : List D) (h : zbm TObject.ty ds) : ∃ x : TObject, ds = TObject.c false x ∧ TObject.n x ≤ zbx ds := by
 simp only [TObject.ty, zbm, zgE] at h
 obtain ⟨a0, b0, rfl, ⟨x0, rfl, _⟩, a1, b1, rfl, ⟨x1, rfl, _⟩, a2, b2, rfl, ⟨x2, rfl⟩, a3, b3, rfl, ⟨x3, rfl, _⟩, a4, b4, rfl, ⟨y4, rfl, h4⟩, a5, b5, rfl, ⟨y5, rfl, h5⟩, a6, b6, rfl, h6, rfl⟩ := h
 obtain ⟨x4, rfl, g4⟩ := zeD (TValue.e false) TValue.n TValue.ty TValue.ofE y4 h4
 obtain ⟨x5, rfl, g5⟩ := zeD (TValue.e false) TValue.n TValue.ty TValue.ofE y5 h5
 obtain ⟨x6, rfl, g6⟩ := TValue.of a6 h6
 refine ⟨⟨x0, x1, x2, x3, x4, x5, x6⟩, ?_, ?_⟩
 ·simp only [TObject.c, TValue.c, List.cons_append, List.nil_append, List.append_nil]
 ·simp only [TObject.n, zbX, zbx, D.bulk] at *; omega
theorem TObject.ofE (cs : List D) (h : zbm TObject.ty cs) : ∃ y : TObject, zcg TObject.ty cs = TObject.e false y ∧ TObject.n y + 1 ≤ (zcg TObject.ty cs).bulk := by
 obtain ⟨x, rfl, g⟩ := TObject.of cs h
 exact ⟨x, rfl, by simp only [TObject.ty, zcg, D.bulk] at *; omega⟩
def THeap.ty : Ty := .st [(.int .i64), (.sl TObject.ty 10)]
theorem THeap.of (ds : List D) (h : zbm THeap.ty ds) : ∃ x : THeap, ds = THeap.c false x ∧ THeap.n x ≤ zbx ds := by
 simp only [THeap.ty, zbm, zgE] at h
 obtain ⟨a0, b0, rfl, ⟨x0, rfl, _⟩, a1, b1, rfl, ⟨y1, rfl, h1⟩, rfl⟩ := h
 obtain ⟨x1, rfl, g1⟩ := zeD (TObject.e false) TObject.n TObject.ty TObject.ofE y1 h1
 refine ⟨⟨x0, x1⟩, ?_, ?_⟩
 ·simp only [THeap.c, List.cons_append, List.nil_append, List.append_nil]
 ·simp only [THeap.n, zbX, zbx, D.bulk] at *; omega
theorem THeap.ofE (cs : List D) (h : zbm THeap.ty cs) : ∃ y : THeap, zcg THeap.ty cs = THeap.e false y ∧ THeap.n y + 1 ≤ (zcg THeap.ty cs).bulk := by
 obtain ⟨x, rfl, g⟩ := THeap.of cs h
 exact ⟨x, rfl, by simp only [THeap.ty, zcg, D.bulk] at *; omega⟩
end Go.Vx
