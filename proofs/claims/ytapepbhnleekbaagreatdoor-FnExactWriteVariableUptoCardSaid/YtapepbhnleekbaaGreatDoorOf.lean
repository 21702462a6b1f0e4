/-
  Values that were read, as the program's plain types.
-/
import Derived.Test.YtapepbhnleekbaaGreatDoorVxD
import Derived.Test.YtapepbhnleekbaaGreatDoorTypes
set_option linter.unusedVariables false
set_option linter.unusedSimpArgs false
namespace Go.Vx
def ExP (i:Nat) (ds:List D):Prop :=
 match i with
 | _=>False
def TValue.ty:Ty:=.st [(.int .i64),(.int .i64),.str,(.int .i64)]
theorem TValue.of (ds:List D) (h:zaW ExP TValue.ty ds):∃ x:TValue,ds=TValue.c false x∧TValue.n x<=zbf ds:=by
 simp only [TValue.ty,zaW,zfo] at h
 obtain ⟨a0,b0,rfl,⟨x0,rfl,_⟩,a1,b1,rfl,⟨x1,rfl,_⟩,a2,b2,rfl,⟨x2,rfl⟩,a3,b3,rfl,⟨x3,rfl,_⟩,rfl⟩:=h
 skip
 refine ⟨⟨x0,x1,x2,x3⟩,?_,?_⟩
 ·simp only [TValue.c,List.cons_append,List.nil_append,List.append_nil]
 ·simp only [TValue.n,zbc,zbf,D.bulk] at *;omega
theorem TValue.ofE (cs:List D) (h:zaW ExP TValue.ty cs):∃ y:TValue,zbm TValue.ty cs=TValue.e false y∧TValue.n y + 1<=(zbm TValue.ty cs).bulk:=by
 obtain ⟨x,rfl,g⟩:=TValue.of cs h
 exact ⟨x,rfl,by simp only [TValue.ty,zbm,D.bulk] at *;omega⟩
def TObject.ty:Ty:=.st [(.int .i64),(.int .i64),.str,(.int .i64),(.sl TValue.ty 4),(.sl TValue.ty 4),TValue.ty]
theorem TObject.of (ds:List D) (h:zaW ExP TObject.ty ds):∃ x:TObject,ds=TObject.c false x∧TObject.n x<=zbf ds:=by
 simp only [TObject.ty,zaW,zfo] at h
 obtain ⟨a0,b0,rfl,⟨x0,rfl,_⟩,a1,b1,rfl,⟨x1,rfl,_⟩,a2,b2,rfl,⟨x2,rfl⟩,a3,b3,rfl,⟨x3,rfl,_⟩,a4,b4,rfl,⟨y4,rfl,h4⟩,a5,b5,rfl,⟨y5,rfl,h5⟩,a6,b6,rfl,h6,rfl⟩:=h
 obtain ⟨x4,rfl,g4⟩:=zdt (Ex:=ExP) (TValue.e false) TValue.n TValue.ty TValue.ofE y4 h4
 obtain ⟨x5,rfl,g5⟩:=zdt (Ex:=ExP) (TValue.e false) TValue.n TValue.ty TValue.ofE y5 h5
 obtain ⟨x6,rfl,g6⟩:=TValue.of a6 h6
 refine ⟨⟨x0,x1,x2,x3,x4,x5,x6⟩,?_,?_⟩
 ·simp only [TObject.c,TValue.c,List.cons_append,List.nil_append,List.append_nil]
 ·simp only [TObject.n,zbc,zbf,D.bulk] at *;omega
theorem TObject.ofE (cs:List D) (h:zaW ExP TObject.ty cs):∃ y:TObject,zbm TObject.ty cs=TObject.e false y∧TObject.n y + 1<=(zbm TObject.ty cs).bulk:=by
 obtain ⟨x,rfl,g⟩:=TObject.of cs h
 exact ⟨x,rfl,by simp only [TObject.ty,zbm,D.bulk] at *;omega⟩
def THeap.ty:Ty:=.st [(.int .i64),(.sl TObject.ty 10)]
theorem THeap.of (ds:List D) (h:zaW ExP THeap.ty ds):∃ x:THeap,ds=THeap.c false x∧THeap.n x<=zbf ds:=by
 simp only [THeap.ty,zaW,zfo] at h
 obtain ⟨a0,b0,rfl,⟨x0,rfl,_⟩,a1,b1,rfl,⟨y1,rfl,h1⟩,rfl⟩:=h
 obtain ⟨x1,rfl,g1⟩:=zdt (Ex:=ExP) (TObject.e false) TObject.n TObject.ty TObject.ofE y1 h1
 refine ⟨⟨x0,x1⟩,?_,?_⟩
 ·simp only [THeap.c,List.cons_append,List.nil_append,List.append_nil]
 ·simp only [THeap.n,zbc,zbf,D.bulk] at *;omega
theorem THeap.ofE (cs:List D) (h:zaW ExP THeap.ty cs):∃ y:THeap,zbm THeap.ty cs=THeap.e false y∧THeap.n y + 1<=(zbm THeap.ty cs).bulk:=by
 obtain ⟨x,rfl,g⟩:=THeap.of cs h
 exact ⟨x,rfl,by simp only [THeap.ty,zbm,D.bulk] at *;omega⟩
def TBinding.ty:Ty:=.st [.str,TValue.ty]
theorem TBinding.of (ds:List D) (h:zaW ExP TBinding.ty ds):∃ x:TBinding,ds=TBinding.c false x∧TBinding.n x<=zbf ds:=by
 simp only [TBinding.ty,zaW,zfo] at h
 obtain ⟨a0,b0,rfl,⟨x0,rfl⟩,a1,b1,rfl,h1,rfl⟩:=h
 obtain ⟨x1,rfl,g1⟩:=TValue.of a1 h1
 refine ⟨⟨x0,x1⟩,?_,?_⟩
 ·simp only [TBinding.c,TValue.c,List.cons_append,List.nil_append,List.append_nil]
 ·simp only [TBinding.n,zbc,zbf,D.bulk] at *;omega
theorem TBinding.ofE (cs:List D) (h:zaW ExP TBinding.ty cs):∃ y:TBinding,zbm TBinding.ty cs=TBinding.e false y∧TBinding.n y + 1<=(zbm TBinding.ty cs).bulk:=by
 obtain ⟨x,rfl,g⟩:=TBinding.of cs h
 exact ⟨x,rfl,by simp only [TBinding.ty,zbm,D.bulk] at *;omega⟩
def TFunction.ty:Ty:=.st [.str,(.sl .str 1),(.sl .str 1),.str]
theorem TFunction.of (ds:List D) (h:zaW ExP TFunction.ty ds):∃ x:TFunction,ds=TFunction.c false x∧TFunction.n x<=zbf ds:=by
 simp only [TFunction.ty,zaW,zfo] at h
 obtain ⟨a0,b0,rfl,⟨x0,rfl⟩,a1,b1,rfl,⟨y1,rfl,h1⟩,a2,b2,rfl,⟨y2,rfl,h2⟩,a3,b3,rfl,⟨x3,rfl⟩,rfl⟩:=h
 obtain ⟨x1,rfl,g1⟩:=zdt (Ex:=ExP) D.str ByteArray.size .str zjv y1 h1
 obtain ⟨x2,rfl,g2⟩:=zdt (Ex:=ExP) D.str ByteArray.size .str zjv y2 h2
 refine ⟨⟨x0,x1,x2,x3⟩,?_,?_⟩
 ·simp only [TFunction.c,List.cons_append,List.nil_append,List.append_nil]
 ·simp only [TFunction.n,zbc,zbf,D.bulk] at *;omega
theorem TFunction.ofE (cs:List D) (h:zaW ExP TFunction.ty cs):∃ y:TFunction,zbm TFunction.ty cs=TFunction.e false y∧TFunction.n y + 1<=(zbm TFunction.ty cs).bulk:=by
 obtain ⟨x,rfl,g⟩:=TFunction.of cs h
 exact ⟨x,rfl,by simp only [TFunction.ty,zbm,D.bulk] at *;omega⟩
def TRecordType.ty:Ty:=.st [.str,(.sl .str 1)]
theorem TRecordType.of (ds:List D) (h:zaW ExP TRecordType.ty ds):∃ x:TRecordType,ds=TRecordType.c false x∧TRecordType.n x<=zbf ds:=by
 simp only [TRecordType.ty,zaW,zfo] at h
 obtain ⟨a0,b0,rfl,⟨x0,rfl⟩,a1,b1,rfl,⟨y1,rfl,h1⟩,rfl⟩:=h
 obtain ⟨x1,rfl,g1⟩:=zdt (Ex:=ExP) D.str ByteArray.size .str zjv y1 h1
 refine ⟨⟨x0,x1⟩,?_,?_⟩
 ·simp only [TRecordType.c,List.cons_append,List.nil_append,List.append_nil]
 ·simp only [TRecordType.n,zbc,zbf,D.bulk] at *;omega
theorem TRecordType.ofE (cs:List D) (h:zaW ExP TRecordType.ty cs):∃ y:TRecordType,zbm TRecordType.ty cs=TRecordType.e false y∧TRecordType.n y + 1<=(zbm TRecordType.ty cs).bulk:=by
 obtain ⟨x,rfl,g⟩:=TRecordType.of cs h
 exact ⟨x,rfl,by simp only [TRecordType.ty,zbm,D.bulk] at *;omega⟩
def TScope.ty:Ty:=.st [(.sl TBinding.ty 5),(.sl TFunction.ty 4),(.sl TRecordType.ty 2)]
theorem TScope.of (ds:List D) (h:zaW ExP TScope.ty ds):∃ x:TScope,ds=TScope.c false x∧TScope.n x<=zbf ds:=by
 simp only [TScope.ty,zaW,zfo] at h
 obtain ⟨a0,b0,rfl,⟨y0,rfl,h0⟩,a1,b1,rfl,⟨y1,rfl,h1⟩,a2,b2,rfl,⟨y2,rfl,h2⟩,rfl⟩:=h
 obtain ⟨x0,rfl,g0⟩:=zdt (Ex:=ExP) (TBinding.e false) TBinding.n TBinding.ty TBinding.ofE y0 h0
 obtain ⟨x1,rfl,g1⟩:=zdt (Ex:=ExP) (TFunction.e false) TFunction.n TFunction.ty TFunction.ofE y1 h1
 obtain ⟨x2,rfl,g2⟩:=zdt (Ex:=ExP) (TRecordType.e false) TRecordType.n TRecordType.ty TRecordType.ofE y2 h2
 refine ⟨⟨x0,x1,x2⟩,?_,?_⟩
 ·simp only [TScope.c,List.cons_append,List.nil_append,List.append_nil]
 ·simp only [TScope.n,zbc,zbf,D.bulk] at *;omega
theorem TScope.ofE (cs:List D) (h:zaW ExP TScope.ty cs):∃ y:TScope,zbm TScope.ty cs=TScope.e false y∧TScope.n y + 1<=(zbm TScope.ty cs).bulk:=by
 obtain ⟨x,rfl,g⟩:=TScope.of cs h
 exact ⟨x,rfl,by simp only [TScope.ty,zbm,D.bulk] at *;omega⟩
def TFile.ty:Ty:=.st [.str,(.sl .str 1),(.int .i64),(.int .i64)]
theorem TFile.of (ds:List D) (h:zaW ExP TFile.ty ds):∃ x:TFile,ds=TFile.c false x∧TFile.n x<=zbf ds:=by
 simp only [TFile.ty,zaW,zfo] at h
 obtain ⟨a0,b0,rfl,⟨x0,rfl⟩,a1,b1,rfl,⟨y1,rfl,h1⟩,a2,b2,rfl,⟨x2,rfl,_⟩,a3,b3,rfl,⟨x3,rfl,_⟩,rfl⟩:=h
 obtain ⟨x1,rfl,g1⟩:=zdt (Ex:=ExP) D.str ByteArray.size .str zjv y1 h1
 refine ⟨⟨x0,x1,x2,x3⟩,?_,?_⟩
 ·simp only [TFile.c,List.cons_append,List.nil_append,List.append_nil]
 ·simp only [TFile.n,zbc,zbf,D.bulk] at *;omega
theorem TFile.ofE (cs:List D) (h:zaW ExP TFile.ty cs):∃ y:TFile,zbm TFile.ty cs=TFile.e false y∧TFile.n y + 1<=(zbm TFile.ty cs).bulk:=by
 obtain ⟨x,rfl,g⟩:=TFile.of cs h
 exact ⟨x,rfl,by simp only [TFile.ty,zbm,D.bulk] at *;omega⟩
def TConsole.ty:Ty:=.st [(.sl .str 1),(.int .i64),(.sl .str 1),(.sl TFile.ty 4),(.sl .str 1)]
theorem TConsole.of (ds:List D) (h:zaW ExP TConsole.ty ds):∃ x:TConsole,ds=TConsole.c false x∧TConsole.n x<=zbf ds:=by
 simp only [TConsole.ty,zaW,zfo] at h
 obtain ⟨a0,b0,rfl,⟨y0,rfl,h0⟩,a1,b1,rfl,⟨x1,rfl,_⟩,a2,b2,rfl,⟨y2,rfl,h2⟩,a3,b3,rfl,⟨y3,rfl,h3⟩,a4,b4,rfl,⟨y4,rfl,h4⟩,rfl⟩:=h
 obtain ⟨x0,rfl,g0⟩:=zdt (Ex:=ExP) D.str ByteArray.size .str zjv y0 h0
 obtain ⟨x2,rfl,g2⟩:=zdt (Ex:=ExP) D.str ByteArray.size .str zjv y2 h2
 obtain ⟨x3,rfl,g3⟩:=zdt (Ex:=ExP) (TFile.e false) TFile.n TFile.ty TFile.ofE y3 h3
 obtain ⟨x4,rfl,g4⟩:=zdt (Ex:=ExP) D.str ByteArray.size .str zjv y4 h4
 refine ⟨⟨x0,x1,x2,x3,x4⟩,?_,?_⟩
 ·simp only [TConsole.c,List.cons_append,List.nil_append,List.append_nil]
 ·simp only [TConsole.n,zbc,zbf,D.bulk] at *;omega
theorem TConsole.ofE (cs:List D) (h:zaW ExP TConsole.ty cs):∃ y:TConsole,zbm TConsole.ty cs=TConsole.e false y∧TConsole.n y + 1<=(zbm TConsole.ty cs).bulk:=by
 obtain ⟨x,rfl,g⟩:=TConsole.of cs h
 exact ⟨x,rfl,by simp only [TConsole.ty,zbm,D.bulk] at *;omega⟩
def TMemory.ty:Ty:=.st [THeap.ty,TScope.ty,TConsole.ty]
theorem TMemory.of (ds:List D) (h:zaW ExP TMemory.ty ds):∃ x:TMemory,ds=TMemory.c false x∧TMemory.n x<=zbf ds:=by
 simp only [TMemory.ty,zaW,zfo] at h
 obtain ⟨a0,b0,rfl,h0,a1,b1,rfl,h1,a2,b2,rfl,h2,rfl⟩:=h
 obtain ⟨x0,rfl,g0⟩:=THeap.of a0 h0
 obtain ⟨x1,rfl,g1⟩:=TScope.of a1 h1
 obtain ⟨x2,rfl,g2⟩:=TConsole.of a2 h2
 refine ⟨⟨x0,x1,x2⟩,?_,?_⟩
 ·simp only [TMemory.c,THeap.c,TScope.c,TConsole.c,List.cons_append,List.nil_append,List.append_nil]
 ·simp only [TMemory.n,zbc,zbf,D.bulk] at *;omega
theorem TMemory.ofE (cs:List D) (h:zaW ExP TMemory.ty cs):∃ y:TMemory,zbm TMemory.ty cs=TMemory.e false y∧TMemory.n y + 1<=(zbm TMemory.ty cs).bulk:=by
 obtain ⟨x,rfl,g⟩:=TMemory.of cs h
 exact ⟨x,rfl,by simp only [TMemory.ty,zbm,D.bulk] at *;omega⟩
end Go.Vx

