/-
  Values that were read, as the program's plain types.
-/
import Derived.Test.YthfkpkfcnnhkeaaGreatVxC
import Derived.Test.YthfkpkfcnnhkeaaGreatTypes
set_option linter.unusedVariables false
set_option linter.unusedSimpArgs false
namespace Go.Vx
set_option linter.unusedVariables false
set_option linter.unusedSimpArgs false
def TValue.ty : Ty := .st [(.int .i64), (.int .i64), .str, (.int .i64)]
theorem TValue.of (ds : List D) (h : HasTy TValue.ty ds) : ∃ x : TValue, ds = TValue.c false x ∧ TValue.n x ≤ bulkL ds := by
  simp only [TValue.ty, HasTy, HasTyL] at h
  obtain ⟨a0, b0, rfl, ⟨x0, rfl, _⟩, a1, b1, rfl, ⟨x1, rfl, _⟩, a2, b2, rfl, ⟨x2, rfl⟩, a3, b3, rfl, ⟨x3, rfl, _⟩, rfl⟩ := h
  skip
  refine ⟨⟨x0, x1, x2, x3⟩, ?_, ?_⟩
  · simp only [TValue.c, List.cons_append, List.nil_append, List.append_nil]
  · simp only [TValue.n, bulkL_append, bulkL, D.bulk] at *; omega
theorem TValue.ofE (cs : List D) (h : HasTy TValue.ty cs) : ∃ y : TValue, elemD TValue.ty cs = TValue.e false y ∧ TValue.n y + 1 ≤ (elemD TValue.ty cs).bulk := by
  obtain ⟨x, rfl, g⟩ := TValue.of cs h
  exact ⟨x, rfl, by simp only [TValue.ty, elemD, D.bulk] at *; omega⟩
def TBinding.ty : Ty := .st [.str, TValue.ty]
theorem TBinding.of (ds : List D) (h : HasTy TBinding.ty ds) : ∃ x : TBinding, ds = TBinding.c false x ∧ TBinding.n x ≤ bulkL ds := by
  simp only [TBinding.ty, HasTy, HasTyL] at h
  obtain ⟨a0, b0, rfl, ⟨x0, rfl⟩, a1, b1, rfl, h1, rfl⟩ := h
  obtain ⟨x1, rfl, g1⟩ := TValue.of a1 h1
  refine ⟨⟨x0, x1⟩, ?_, ?_⟩
  · simp only [TBinding.c, TValue.c, List.cons_append, List.nil_append, List.append_nil]
  · simp only [TBinding.n, bulkL_append, bulkL, D.bulk] at *; omega
theorem TBinding.ofE (cs : List D) (h : HasTy TBinding.ty cs) : ∃ y : TBinding, elemD TBinding.ty cs = TBinding.e false y ∧ TBinding.n y + 1 ≤ (elemD TBinding.ty cs).bulk := by
  obtain ⟨x, rfl, g⟩ := TBinding.of cs h
  exact ⟨x, rfl, by simp only [TBinding.ty, elemD, D.bulk] at *; omega⟩
def TFunction.ty : Ty := .st [.str, (.sl .str 1), (.sl .str 1), .str]
theorem TFunction.of (ds : List D) (h : HasTy TFunction.ty ds) : ∃ x : TFunction, ds = TFunction.c false x ∧ TFunction.n x ≤ bulkL ds := by
  simp only [TFunction.ty, HasTy, HasTyL] at h
  obtain ⟨a0, b0, rfl, ⟨x0, rfl⟩, a1, b1, rfl, ⟨y1, rfl, h1⟩, a2, b2, rfl, ⟨y2, rfl, h2⟩, a3, b3, rfl, ⟨x3, rfl⟩, rfl⟩ := h
  obtain ⟨x1, rfl, g1⟩ := of_list D.str ByteArray.size .str of_str y1 h1
  obtain ⟨x2, rfl, g2⟩ := of_list D.str ByteArray.size .str of_str y2 h2
  refine ⟨⟨x0, x1, x2, x3⟩, ?_, ?_⟩
  · simp only [TFunction.c, List.cons_append, List.nil_append, List.append_nil]
  · simp only [TFunction.n, bulkL_append, bulkL, D.bulk] at *; omega
theorem TFunction.ofE (cs : List D) (h : HasTy TFunction.ty cs) : ∃ y : TFunction, elemD TFunction.ty cs = TFunction.e false y ∧ TFunction.n y + 1 ≤ (elemD TFunction.ty cs).bulk := by
  obtain ⟨x, rfl, g⟩ := TFunction.of cs h
  exact ⟨x, rfl, by simp only [TFunction.ty, elemD, D.bulk] at *; omega⟩
def TRecordType.ty : Ty := .st [.str, (.sl .str 1)]
theorem TRecordType.of (ds : List D) (h : HasTy TRecordType.ty ds) : ∃ x : TRecordType, ds = TRecordType.c false x ∧ TRecordType.n x ≤ bulkL ds := by
  simp only [TRecordType.ty, HasTy, HasTyL] at h
  obtain ⟨a0, b0, rfl, ⟨x0, rfl⟩, a1, b1, rfl, ⟨y1, rfl, h1⟩, rfl⟩ := h
  obtain ⟨x1, rfl, g1⟩ := of_list D.str ByteArray.size .str of_str y1 h1
  refine ⟨⟨x0, x1⟩, ?_, ?_⟩
  · simp only [TRecordType.c, List.cons_append, List.nil_append, List.append_nil]
  · simp only [TRecordType.n, bulkL_append, bulkL, D.bulk] at *; omega
theorem TRecordType.ofE (cs : List D) (h : HasTy TRecordType.ty cs) : ∃ y : TRecordType, elemD TRecordType.ty cs = TRecordType.e false y ∧ TRecordType.n y + 1 ≤ (elemD TRecordType.ty cs).bulk := by
  obtain ⟨x, rfl, g⟩ := TRecordType.of cs h
  exact ⟨x, rfl, by simp only [TRecordType.ty, elemD, D.bulk] at *; omega⟩
def TScope.ty : Ty := .st [(.sl TBinding.ty 5), (.sl TFunction.ty 4), (.sl TRecordType.ty 2)]
theorem TScope.of (ds : List D) (h : HasTy TScope.ty ds) : ∃ x : TScope, ds = TScope.c false x ∧ TScope.n x ≤ bulkL ds := by
  simp only [TScope.ty, HasTy, HasTyL] at h
  obtain ⟨a0, b0, rfl, ⟨y0, rfl, h0⟩, a1, b1, rfl, ⟨y1, rfl, h1⟩, a2, b2, rfl, ⟨y2, rfl, h2⟩, rfl⟩ := h
  obtain ⟨x0, rfl, g0⟩ := of_list (TBinding.e false) TBinding.n TBinding.ty TBinding.ofE y0 h0
  obtain ⟨x1, rfl, g1⟩ := of_list (TFunction.e false) TFunction.n TFunction.ty TFunction.ofE y1 h1
  obtain ⟨x2, rfl, g2⟩ := of_list (TRecordType.e false) TRecordType.n TRecordType.ty TRecordType.ofE y2 h2
  refine ⟨⟨x0, x1, x2⟩, ?_, ?_⟩
  · simp only [TScope.c, List.cons_append, List.nil_append, List.append_nil]
  · simp only [TScope.n, bulkL_append, bulkL, D.bulk] at *; omega
theorem TScope.ofE (cs : List D) (h : HasTy TScope.ty cs) : ∃ y : TScope, elemD TScope.ty cs = TScope.e false y ∧ TScope.n y + 1 ≤ (elemD TScope.ty cs).bulk := by
  obtain ⟨x, rfl, g⟩ := TScope.of cs h
  exact ⟨x, rfl, by simp only [TScope.ty, elemD, D.bulk] at *; omega⟩
def TObject.ty : Ty := .st [(.int .i64), (.int .i64), .str, (.int .i64), (.sl TValue.ty 4), (.sl TValue.ty 4), TValue.ty]
theorem TObject.of (ds : List D) (h : HasTy TObject.ty ds) : ∃ x : TObject, ds = TObject.c false x ∧ TObject.n x ≤ bulkL ds := by
  simp only [TObject.ty, HasTy, HasTyL] at h
  obtain ⟨a0, b0, rfl, ⟨x0, rfl, _⟩, a1, b1, rfl, ⟨x1, rfl, _⟩, a2, b2, rfl, ⟨x2, rfl⟩, a3, b3, rfl, ⟨x3, rfl, _⟩, a4, b4, rfl, ⟨y4, rfl, h4⟩, a5, b5, rfl, ⟨y5, rfl, h5⟩, a6, b6, rfl, h6, rfl⟩ := h
  obtain ⟨x4, rfl, g4⟩ := of_list (TValue.e false) TValue.n TValue.ty TValue.ofE y4 h4
  obtain ⟨x5, rfl, g5⟩ := of_list (TValue.e false) TValue.n TValue.ty TValue.ofE y5 h5
  obtain ⟨x6, rfl, g6⟩ := TValue.of a6 h6
  refine ⟨⟨x0, x1, x2, x3, x4, x5, x6⟩, ?_, ?_⟩
  · simp only [TObject.c, TValue.c, List.cons_append, List.nil_append, List.append_nil]
  · simp only [TObject.n, bulkL_append, bulkL, D.bulk] at *; omega
theorem TObject.ofE (cs : List D) (h : HasTy TObject.ty cs) : ∃ y : TObject, elemD TObject.ty cs = TObject.e false y ∧ TObject.n y + 1 ≤ (elemD TObject.ty cs).bulk := by
  obtain ⟨x, rfl, g⟩ := TObject.of cs h
  exact ⟨x, rfl, by simp only [TObject.ty, elemD, D.bulk] at *; omega⟩
def THeap.ty : Ty := .st [(.int .i64), (.sl TObject.ty 10)]
theorem THeap.of (ds : List D) (h : HasTy THeap.ty ds) : ∃ x : THeap, ds = THeap.c false x ∧ THeap.n x ≤ bulkL ds := by
  simp only [THeap.ty, HasTy, HasTyL] at h
  obtain ⟨a0, b0, rfl, ⟨x0, rfl, _⟩, a1, b1, rfl, ⟨y1, rfl, h1⟩, rfl⟩ := h
  obtain ⟨x1, rfl, g1⟩ := of_list (TObject.e false) TObject.n TObject.ty TObject.ofE y1 h1
  refine ⟨⟨x0, x1⟩, ?_, ?_⟩
  · simp only [THeap.c, List.cons_append, List.nil_append, List.append_nil]
  · simp only [THeap.n, bulkL_append, bulkL, D.bulk] at *; omega
theorem THeap.ofE (cs : List D) (h : HasTy THeap.ty cs) : ∃ y : THeap, elemD THeap.ty cs = THeap.e false y ∧ THeap.n y + 1 ≤ (elemD THeap.ty cs).bulk := by
  obtain ⟨x, rfl, g⟩ := THeap.of cs h
  exact ⟨x, rfl, by simp only [THeap.ty, elemD, D.bulk] at *; omega⟩
def TFile.ty : Ty := .st [.str, (.sl .str 1), (.int .i64), (.int .i64)]
theorem TFile.of (ds : List D) (h : HasTy TFile.ty ds) : ∃ x : TFile, ds = TFile.c false x ∧ TFile.n x ≤ bulkL ds := by
  simp only [TFile.ty, HasTy, HasTyL] at h
  obtain ⟨a0, b0, rfl, ⟨x0, rfl⟩, a1, b1, rfl, ⟨y1, rfl, h1⟩, a2, b2, rfl, ⟨x2, rfl, _⟩, a3, b3, rfl, ⟨x3, rfl, _⟩, rfl⟩ := h
  obtain ⟨x1, rfl, g1⟩ := of_list D.str ByteArray.size .str of_str y1 h1
  refine ⟨⟨x0, x1, x2, x3⟩, ?_, ?_⟩
  · simp only [TFile.c, List.cons_append, List.nil_append, List.append_nil]
  · simp only [TFile.n, bulkL_append, bulkL, D.bulk] at *; omega
theorem TFile.ofE (cs : List D) (h : HasTy TFile.ty cs) : ∃ y : TFile, elemD TFile.ty cs = TFile.e false y ∧ TFile.n y + 1 ≤ (elemD TFile.ty cs).bulk := by
  obtain ⟨x, rfl, g⟩ := TFile.of cs h
  exact ⟨x, rfl, by simp only [TFile.ty, elemD, D.bulk] at *; omega⟩
def TConsole.ty : Ty := .st [(.sl .str 1), (.int .i64), (.sl .str 1), (.sl TFile.ty 4), (.sl .str 1)]
theorem TConsole.of (ds : List D) (h : HasTy TConsole.ty ds) : ∃ x : TConsole, ds = TConsole.c false x ∧ TConsole.n x ≤ bulkL ds := by
  simp only [TConsole.ty, HasTy, HasTyL] at h
  obtain ⟨a0, b0, rfl, ⟨y0, rfl, h0⟩, a1, b1, rfl, ⟨x1, rfl, _⟩, a2, b2, rfl, ⟨y2, rfl, h2⟩, a3, b3, rfl, ⟨y3, rfl, h3⟩, a4, b4, rfl, ⟨y4, rfl, h4⟩, rfl⟩ := h
  obtain ⟨x0, rfl, g0⟩ := of_list D.str ByteArray.size .str of_str y0 h0
  obtain ⟨x2, rfl, g2⟩ := of_list D.str ByteArray.size .str of_str y2 h2
  obtain ⟨x3, rfl, g3⟩ := of_list (TFile.e false) TFile.n TFile.ty TFile.ofE y3 h3
  obtain ⟨x4, rfl, g4⟩ := of_list D.str ByteArray.size .str of_str y4 h4
  refine ⟨⟨x0, x1, x2, x3, x4⟩, ?_, ?_⟩
  · simp only [TConsole.c, List.cons_append, List.nil_append, List.append_nil]
  · simp only [TConsole.n, bulkL_append, bulkL, D.bulk] at *; omega
theorem TConsole.ofE (cs : List D) (h : HasTy TConsole.ty cs) : ∃ y : TConsole, elemD TConsole.ty cs = TConsole.e false y ∧ TConsole.n y + 1 ≤ (elemD TConsole.ty cs).bulk := by
  obtain ⟨x, rfl, g⟩ := TConsole.of cs h
  exact ⟨x, rfl, by simp only [TConsole.ty, elemD, D.bulk] at *; omega⟩
def TMemory.ty : Ty := .st [THeap.ty, TScope.ty, TConsole.ty]
theorem TMemory.of (ds : List D) (h : HasTy TMemory.ty ds) : ∃ x : TMemory, ds = TMemory.c false x ∧ TMemory.n x ≤ bulkL ds := by
  simp only [TMemory.ty, HasTy, HasTyL] at h
  obtain ⟨a0, b0, rfl, h0, a1, b1, rfl, h1, a2, b2, rfl, h2, rfl⟩ := h
  obtain ⟨x0, rfl, g0⟩ := THeap.of a0 h0
  obtain ⟨x1, rfl, g1⟩ := TScope.of a1 h1
  obtain ⟨x2, rfl, g2⟩ := TConsole.of a2 h2
  refine ⟨⟨x0, x1, x2⟩, ?_, ?_⟩
  · simp only [TMemory.c, THeap.c, TScope.c, TConsole.c, List.cons_append, List.nil_append, List.append_nil]
  · simp only [TMemory.n, bulkL_append, bulkL, D.bulk] at *; omega
theorem TMemory.ofE (cs : List D) (h : HasTy TMemory.ty cs) : ∃ y : TMemory, elemD TMemory.ty cs = TMemory.e false y ∧ TMemory.n y + 1 ≤ (elemD TMemory.ty cs).bulk := by
  obtain ⟨x, rfl, g⟩ := TMemory.of cs h
  exact ⟨x, rfl, by simp only [TMemory.ty, elemD, D.bulk] at *; omega⟩
def TOutcome.ty : Ty := .st [TMemory.ty, (.int .i64), (.int .i64), (.int .i64)]
theorem TOutcome.of (ds : List D) (h : HasTy TOutcome.ty ds) : ∃ x : TOutcome, ds = TOutcome.c false x ∧ TOutcome.n x ≤ bulkL ds := by
  simp only [TOutcome.ty, HasTy, HasTyL] at h
  obtain ⟨a0, b0, rfl, h0, a1, b1, rfl, ⟨x1, rfl, _⟩, a2, b2, rfl, ⟨x2, rfl, _⟩, a3, b3, rfl, ⟨x3, rfl, _⟩, rfl⟩ := h
  obtain ⟨x0, rfl, g0⟩ := TMemory.of a0 h0
  refine ⟨⟨x0, x1, x2, x3⟩, ?_, ?_⟩
  · simp only [TOutcome.c, TMemory.c, THeap.c, TScope.c, TConsole.c, List.cons_append, List.nil_append, List.append_nil]
  · simp only [TOutcome.n, bulkL_append, bulkL, D.bulk] at *; omega
theorem TOutcome.ofE (cs : List D) (h : HasTy TOutcome.ty cs) : ∃ y : TOutcome, elemD TOutcome.ty cs = TOutcome.e false y ∧ TOutcome.n y + 1 ≤ (elemD TOutcome.ty cs).bulk := by
  obtain ⟨x, rfl, g⟩ := TOutcome.of cs h
  exact ⟨x, rfl, by simp only [TOutcome.ty, elemD, D.bulk] at *; omega⟩
def TCallFrame.ty : Ty := .st [.str, (.sl TBinding.ty 5), (.int .i64), (.int .i64), (.int .i64)]
theorem TCallFrame.of (ds : List D) (h : HasTy TCallFrame.ty ds) : ∃ x : TCallFrame, ds = TCallFrame.c false x ∧ TCallFrame.n x ≤ bulkL ds := by
  simp only [TCallFrame.ty, HasTy, HasTyL] at h
  obtain ⟨a0, b0, rfl, ⟨x0, rfl⟩, a1, b1, rfl, ⟨y1, rfl, h1⟩, a2, b2, rfl, ⟨x2, rfl, _⟩, a3, b3, rfl, ⟨x3, rfl, _⟩, a4, b4, rfl, ⟨x4, rfl, _⟩, rfl⟩ := h
  obtain ⟨x1, rfl, g1⟩ := of_list (TBinding.e false) TBinding.n TBinding.ty TBinding.ofE y1 h1
  refine ⟨⟨x0, x1, x2, x3, x4⟩, ?_, ?_⟩
  · simp only [TCallFrame.c, List.cons_append, List.nil_append, List.append_nil]
  · simp only [TCallFrame.n, bulkL_append, bulkL, D.bulk] at *; omega
theorem TCallFrame.ofE (cs : List D) (h : HasTy TCallFrame.ty cs) : ∃ y : TCallFrame, elemD TCallFrame.ty cs = TCallFrame.e false y ∧ TCallFrame.n y + 1 ≤ (elemD TCallFrame.ty cs).bulk := by
  obtain ⟨x, rfl, g⟩ := TCallFrame.of cs h
  exact ⟨x, rfl, by simp only [TCallFrame.ty, elemD, D.bulk] at *; omega⟩
def TMachine.ty : Ty := .st [(.int .i64), (.int .i64), TMemory.ty, (.sl TValue.ty 4), (.sl TCallFrame.ty 5), (.int .i64), (.int .i64), (.int .i64), (.int .i64), (.int .i64)]
theorem TMachine.of (ds : List D) (h : HasTy TMachine.ty ds) : ∃ x : TMachine, ds = TMachine.c false x ∧ TMachine.n x ≤ bulkL ds := by
  simp only [TMachine.ty, HasTy, HasTyL] at h
  obtain ⟨a0, b0, rfl, ⟨x0, rfl, _⟩, a1, b1, rfl, ⟨x1, rfl, _⟩, a2, b2, rfl, h2, a3, b3, rfl, ⟨y3, rfl, h3⟩, a4, b4, rfl, ⟨y4, rfl, h4⟩, a5, b5, rfl, ⟨x5, rfl, _⟩, a6, b6, rfl, ⟨x6, rfl, _⟩, a7, b7, rfl, ⟨x7, rfl, _⟩, a8, b8, rfl, ⟨x8, rfl, _⟩, a9, b9, rfl, ⟨x9, rfl, _⟩, rfl⟩ := h
  obtain ⟨x2, rfl, g2⟩ := TMemory.of a2 h2
  obtain ⟨x3, rfl, g3⟩ := of_list (TValue.e false) TValue.n TValue.ty TValue.ofE y3 h3
  obtain ⟨x4, rfl, g4⟩ := of_list (TCallFrame.e false) TCallFrame.n TCallFrame.ty TCallFrame.ofE y4 h4
  refine ⟨⟨x0, x1, x2, x3, x4, x5, x6, x7, x8, x9⟩, ?_, ?_⟩
  · simp only [TMachine.c, TMemory.c, THeap.c, TScope.c, TConsole.c, List.cons_append, List.nil_append, List.append_nil]
  · simp only [TMachine.n, bulkL_append, bulkL, D.bulk] at *; omega
theorem TMachine.ofE (cs : List D) (h : HasTy TMachine.ty cs) : ∃ y : TMachine, elemD TMachine.ty cs = TMachine.e false y ∧ TMachine.n y + 1 ≤ (elemD TMachine.ty cs).bulk := by
  obtain ⟨x, rfl, g⟩ := TMachine.of cs h
  exact ⟨x, rfl, by simp only [TMachine.ty, elemD, D.bulk] at *; omega⟩
end Go.Vx
