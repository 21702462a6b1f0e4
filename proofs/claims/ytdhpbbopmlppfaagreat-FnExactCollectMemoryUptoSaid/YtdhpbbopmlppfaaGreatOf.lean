/-
  Values that were read, as the program's plain types.
-/
import Derived.Test.YtdhpbbopmlppfaaGreatVxD
import Derived.Test.YtdhpbbopmlppfaaGreatTypes
set_option linter.unusedVariables false
set_option linter.unusedSimpArgs false
namespace Go.Vx
set_option linter.unusedVariables false
set_option linter.unusedSimpArgs false
def ExP (i:Nat) (ds:List D):Prop :=
 match i with
 | _=>False
def TValue.ty:Ty:=.st [(.int .i64),(.int .i64),.str,(.int .i64)]
theorem TValue.of (ds:List D) (h:zaS ExP TValue.ty ds):∃ x:TValue,ds=TValue.c false x∧TValue.n x≤zbd ds:=by
 simp only [TValue.ty,zaS,zfo] at h
 obtain ⟨a0,b0,rfl,⟨x0,rfl,_⟩,a1,b1,rfl,⟨x1,rfl,_⟩,a2,b2,rfl,⟨x2,rfl⟩,a3,b3,rfl,⟨x3,rfl,_⟩,rfl⟩:=h
 skip
 refine ⟨⟨x0,x1,x2,x3⟩,?_,?_⟩
 ·simp only [TValue.c,List.cons_append,List.nil_append,List.append_nil]
 ·simp only [TValue.n,zba,zbd,D.bulk] at *;omega
theorem TValue.ofE (cs:List D) (h:zaS ExP TValue.ty cs):∃ y:TValue,zbo TValue.ty cs=TValue.e false y∧TValue.n y + 1≤(zbo TValue.ty cs).bulk:=by
 obtain ⟨x,rfl,g⟩:=TValue.of cs h
 exact ⟨x,rfl,by simp only [TValue.ty,zbo,D.bulk] at *;omega⟩
def TObject.ty:Ty:=.st [(.int .i64),(.int .i64),.str,(.int .i64),(.sl TValue.ty 4),(.sl TValue.ty 4),TValue.ty]
theorem TObject.of (ds:List D) (h:zaS ExP TObject.ty ds):∃ x:TObject,ds=TObject.c false x∧TObject.n x≤zbd ds:=by
 simp only [TObject.ty,zaS,zfo] at h
 obtain ⟨a0,b0,rfl,⟨x0,rfl,_⟩,a1,b1,rfl,⟨x1,rfl,_⟩,a2,b2,rfl,⟨x2,rfl⟩,a3,b3,rfl,⟨x3,rfl,_⟩,a4,b4,rfl,⟨y4,rfl,h4⟩,a5,b5,rfl,⟨y5,rfl,h5⟩,a6,b6,rfl,h6,rfl⟩:=h
 obtain ⟨x4,rfl,g4⟩:=zds (Ex:=ExP) (TValue.e false) TValue.n TValue.ty TValue.ofE y4 h4
 obtain ⟨x5,rfl,g5⟩:=zds (Ex:=ExP) (TValue.e false) TValue.n TValue.ty TValue.ofE y5 h5
 obtain ⟨x6,rfl,g6⟩:=TValue.of a6 h6
 refine ⟨⟨x0,x1,x2,x3,x4,x5,x6⟩,?_,?_⟩
 ·simp only [TObject.c,TValue.c,List.cons_append,List.nil_append,List.append_nil]
 ·simp only [TObject.n,zba,zbd,D.bulk] at *;omega
theorem TObject.ofE (cs:List D) (h:zaS ExP TObject.ty cs):∃ y:TObject,zbo TObject.ty cs=TObject.e false y∧TObject.n y + 1≤(zbo TObject.ty cs).bulk:=by
 obtain ⟨x,rfl,g⟩:=TObject.of cs h
 exact ⟨x,rfl,by simp only [TObject.ty,zbo,D.bulk] at *;omega⟩
def THeap.ty:Ty:=.st [(.int .i64),(.sl TObject.ty 10)]
theorem THeap.of (ds:List D) (h:zaS ExP THeap.ty ds):∃ x:THeap,ds=THeap.c false x∧THeap.n x≤zbd ds:=by
 simp only [THeap.ty,zaS,zfo] at h
 obtain ⟨a0,b0,rfl,⟨x0,rfl,_⟩,a1,b1,rfl,⟨y1,rfl,h1⟩,rfl⟩:=h
 obtain ⟨x1,rfl,g1⟩:=zds (Ex:=ExP) (TObject.e false) TObject.n TObject.ty TObject.ofE y1 h1
 refine ⟨⟨x0,x1⟩,?_,?_⟩
 ·simp only [THeap.c,List.cons_append,List.nil_append,List.append_nil]
 ·simp only [THeap.n,zba,zbd,D.bulk] at *;omega
theorem THeap.ofE (cs:List D) (h:zaS ExP THeap.ty cs):∃ y:THeap,zbo THeap.ty cs=THeap.e false y∧THeap.n y + 1≤(zbo THeap.ty cs).bulk:=by
 obtain ⟨x,rfl,g⟩:=THeap.of cs h
 exact ⟨x,rfl,by simp only [THeap.ty,zbo,D.bulk] at *;omega⟩
def TBinding.ty:Ty:=.st [.str,TValue.ty]
theorem TBinding.of (ds:List D) (h:zaS ExP TBinding.ty ds):∃ x:TBinding,ds=TBinding.c false x∧TBinding.n x≤zbd ds:=by
 simp only [TBinding.ty,zaS,zfo] at h
 obtain ⟨a0,b0,rfl,⟨x0,rfl⟩,a1,b1,rfl,h1,rfl⟩:=h
 obtain ⟨x1,rfl,g1⟩:=TValue.of a1 h1
 refine ⟨⟨x0,x1⟩,?_,?_⟩
 ·simp only [TBinding.c,TValue.c,List.cons_append,List.nil_append,List.append_nil]
 ·simp only [TBinding.n,zba,zbd,D.bulk] at *;omega
theorem TBinding.ofE (cs:List D) (h:zaS ExP TBinding.ty cs):∃ y:TBinding,zbo TBinding.ty cs=TBinding.e false y∧TBinding.n y + 1≤(zbo TBinding.ty cs).bulk:=by
 obtain ⟨x,rfl,g⟩:=TBinding.of cs h
 exact ⟨x,rfl,by simp only [TBinding.ty,zbo,D.bulk] at *;omega⟩
def TFunction.ty:Ty:=.st [.str,(.sl .str 1),(.sl .str 1),.str]
theorem TFunction.of (ds:List D) (h:zaS ExP TFunction.ty ds):∃ x:TFunction,ds=TFunction.c false x∧TFunction.n x≤zbd ds:=by
 simp only [TFunction.ty,zaS,zfo] at h
 obtain ⟨a0,b0,rfl,⟨x0,rfl⟩,a1,b1,rfl,⟨y1,rfl,h1⟩,a2,b2,rfl,⟨y2,rfl,h2⟩,a3,b3,rfl,⟨x3,rfl⟩,rfl⟩:=h
 obtain ⟨x1,rfl,g1⟩:=zds (Ex:=ExP) D.str ByteArray.size .str zjk y1 h1
 obtain ⟨x2,rfl,g2⟩:=zds (Ex:=ExP) D.str ByteArray.size .str zjk y2 h2
 refine ⟨⟨x0,x1,x2,x3⟩,?_,?_⟩
 ·simp only [TFunction.c,List.cons_append,List.nil_append,List.append_nil]
 ·simp only [TFunction.n,zba,zbd,D.bulk] at *;omega
theorem TFunction.ofE (cs:List D) (h:zaS ExP TFunction.ty cs):∃ y:TFunction,zbo TFunction.ty cs=TFunction.e false y∧TFunction.n y + 1≤(zbo TFunction.ty cs).bulk:=by
 obtain ⟨x,rfl,g⟩:=TFunction.of cs h
 exact ⟨x,rfl,by simp only [TFunction.ty,zbo,D.bulk] at *;omega⟩
def TRecordType.ty:Ty:=.st [.str,(.sl .str 1)]
theorem TRecordType.of (ds:List D) (h:zaS ExP TRecordType.ty ds):∃ x:TRecordType,ds=TRecordType.c false x∧TRecordType.n x≤zbd ds:=by
 simp only [TRecordType.ty,zaS,zfo] at h
 obtain ⟨a0,b0,rfl,⟨x0,rfl⟩,a1,b1,rfl,⟨y1,rfl,h1⟩,rfl⟩:=h
 obtain ⟨x1,rfl,g1⟩:=zds (Ex:=ExP) D.str ByteArray.size .str zjk y1 h1
 refine ⟨⟨x0,x1⟩,?_,?_⟩
 ·simp only [TRecordType.c,List.cons_append,List.nil_append,List.append_nil]
 ·simp only [TRecordType.n,zba,zbd,D.bulk] at *;omega
theorem TRecordType.ofE (cs:List D) (h:zaS ExP TRecordType.ty cs):∃ y:TRecordType,zbo TRecordType.ty cs=TRecordType.e false y∧TRecordType.n y + 1≤(zbo TRecordType.ty cs).bulk:=by
 obtain ⟨x,rfl,g⟩:=TRecordType.of cs h
 exact ⟨x,rfl,by simp only [TRecordType.ty,zbo,D.bulk] at *;omega⟩
def TScope.ty:Ty:=.st [(.sl TBinding.ty 5),(.sl TFunction.ty 4),(.sl TRecordType.ty 2)]
theorem TScope.of (ds:List D) (h:zaS ExP TScope.ty ds):∃ x:TScope,ds=TScope.c false x∧TScope.n x≤zbd ds:=by
 simp only [TScope.ty,zaS,zfo] at h
 obtain ⟨a0,b0,rfl,⟨y0,rfl,h0⟩,a1,b1,rfl,⟨y1,rfl,h1⟩,a2,b2,rfl,⟨y2,rfl,h2⟩,rfl⟩:=h
 obtain ⟨x0,rfl,g0⟩:=zds (Ex:=ExP) (TBinding.e false) TBinding.n TBinding.ty TBinding.ofE y0 h0
 obtain ⟨x1,rfl,g1⟩:=zds (Ex:=ExP) (TFunction.e false) TFunction.n TFunction.ty TFunction.ofE y1 h1
 obtain ⟨x2,rfl,g2⟩:=zds (Ex:=ExP) (TRecordType.e false) TRecordType.n TRecordType.ty TRecordType.ofE y2 h2
 refine ⟨⟨x0,x1,x2⟩,?_,?_⟩
 ·simp only [TScope.c,List.cons_append,List.nil_append,List.append_nil]
 ·simp only [TScope.n,zba,zbd,D.bulk] at *;omega
theorem TScope.ofE (cs:List D) (h:zaS ExP TScope.ty cs):∃ y:TScope,zbo TScope.ty cs=TScope.e false y∧TScope.n y + 1≤(zbo TScope.ty cs).bulk:=by
 obtain ⟨x,rfl,g⟩:=TScope.of cs h
 exact ⟨x,rfl,by simp only [TScope.ty,zbo,D.bulk] at *;omega⟩
def TFile.ty:Ty:=.st [.str,(.sl .str 1),(.int .i64),(.int .i64)]
theorem TFile.of (ds:List D) (h:zaS ExP TFile.ty ds):∃ x:TFile,ds=TFile.c false x∧TFile.n x≤zbd ds:=by
 simp only [TFile.ty,zaS,zfo] at h
 obtain ⟨a0,b0,rfl,⟨x0,rfl⟩,a1,b1,rfl,⟨y1,rfl,h1⟩,a2,b2,rfl,⟨x2,rfl,_⟩,a3,b3,rfl,⟨x3,rfl,_⟩,rfl⟩:=h
 obtain ⟨x1,rfl,g1⟩:=zds (Ex:=ExP) D.str ByteArray.size .str zjk y1 h1
 refine ⟨⟨x0,x1,x2,x3⟩,?_,?_⟩
 ·simp only [TFile.c,List.cons_append,List.nil_append,List.append_nil]
 ·simp only [TFile.n,zba,zbd,D.bulk] at *;omega
theorem TFile.ofE (cs:List D) (h:zaS ExP TFile.ty cs):∃ y:TFile,zbo TFile.ty cs=TFile.e false y∧TFile.n y + 1≤(zbo TFile.ty cs).bulk:=by
 obtain ⟨x,rfl,g⟩:=TFile.of cs h
 exact ⟨x,rfl,by simp only [TFile.ty,zbo,D.bulk] at *;omega⟩
def TConsole.ty:Ty:=.st [(.sl .str 1),(.int .i64),(.sl .str 1),(.sl TFile.ty 4),(.sl .str 1)]
theorem TConsole.of (ds:List D) (h:zaS ExP TConsole.ty ds):∃ x:TConsole,ds=TConsole.c false x∧TConsole.n x≤zbd ds:=by
 simp only [TConsole.ty,zaS,zfo] at h
 obtain ⟨a0,b0,rfl,⟨y0,rfl,h0⟩,a1,b1,rfl,⟨x1,rfl,_⟩,a2,b2,rfl,⟨y2,rfl,h2⟩,a3,b3,rfl,⟨y3,rfl,h3⟩,a4,b4,rfl,⟨y4,rfl,h4⟩,rfl⟩:=h
 obtain ⟨x0,rfl,g0⟩:=zds (Ex:=ExP) D.str ByteArray.size .str zjk y0 h0
 obtain ⟨x2,rfl,g2⟩:=zds (Ex:=ExP) D.str ByteArray.size .str zjk y2 h2
 obtain ⟨x3,rfl,g3⟩:=zds (Ex:=ExP) (TFile.e false) TFile.n TFile.ty TFile.ofE y3 h3
 obtain ⟨x4,rfl,g4⟩:=zds (Ex:=ExP) D.str ByteArray.size .str zjk y4 h4
 refine ⟨⟨x0,x1,x2,x3,x4⟩,?_,?_⟩
 ·simp only [TConsole.c,List.cons_append,List.nil_append,List.append_nil]
 ·simp only [TConsole.n,zba,zbd,D.bulk] at *;omega
theorem TConsole.ofE (cs:List D) (h:zaS ExP TConsole.ty cs):∃ y:TConsole,zbo TConsole.ty cs=TConsole.e false y∧TConsole.n y + 1≤(zbo TConsole.ty cs).bulk:=by
 obtain ⟨x,rfl,g⟩:=TConsole.of cs h
 exact ⟨x,rfl,by simp only [TConsole.ty,zbo,D.bulk] at *;omega⟩
def TMemory.ty:Ty:=.st [THeap.ty,TScope.ty,TConsole.ty]
theorem TMemory.of (ds:List D) (h:zaS ExP TMemory.ty ds):∃ x:TMemory,ds=TMemory.c false x∧TMemory.n x≤zbd ds:=by
 simp only [TMemory.ty,zaS,zfo] at h
 obtain ⟨a0,b0,rfl,h0,a1,b1,rfl,h1,a2,b2,rfl,h2,rfl⟩:=h
 obtain ⟨x0,rfl,g0⟩:=THeap.of a0 h0
 obtain ⟨x1,rfl,g1⟩:=TScope.of a1 h1
 obtain ⟨x2,rfl,g2⟩:=TConsole.of a2 h2
 refine ⟨⟨x0,x1,x2⟩,?_,?_⟩
 ·simp only [TMemory.c,THeap.c,TScope.c,TConsole.c,List.cons_append,List.nil_append,List.append_nil]
 ·simp only [TMemory.n,zba,zbd,D.bulk] at *;omega
theorem TMemory.ofE (cs:List D) (h:zaS ExP TMemory.ty cs):∃ y:TMemory,zbo TMemory.ty cs=TMemory.e false y∧TMemory.n y + 1≤(zbo TMemory.ty cs).bulk:=by
 obtain ⟨x,rfl,g⟩:=TMemory.of cs h
 exact ⟨x,rfl,by simp only [TMemory.ty,zbo,D.bulk] at *;omega⟩
end Go.Vx
