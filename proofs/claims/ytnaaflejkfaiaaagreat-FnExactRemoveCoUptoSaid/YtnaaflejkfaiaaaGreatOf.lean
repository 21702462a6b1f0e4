/-
  Values that were read, as the program's plain types.
-/
import Derived.Test.YtnaaflejkfaiaaaGreatVxD
import Derived.Test.YtnaaflejkfaiaaaGreatTypes
set_option linter.unusedVariables false
set_option linter.unusedSimpArgs false
namespace Go.Vx
def ExP (i:Nat) (ds:List D):Prop :=
 match i with
 | 0=>∃ x:TGen,ds=TGen.c false x∧TGen.n x<=zbp ds
 | 1=>∃ x:TCursor,ds=TCursor.c false x∧TCursor.n x<=zbp ds
 | _=>False
def TValue.ty:Ty:=.st [(.int .i64),(.int .i64),.str,(.int .i64)]
theorem TValue.of (ds:List D) (h:zbq ExP TValue.ty ds):∃ x:TValue,ds=TValue.c false x∧TValue.n x<=zbp ds:=by
 simp only [TValue.ty,zbq,zfN] at h
 obtain ⟨a0,b0,rfl,⟨x0,rfl,_⟩,a1,b1,rfl,⟨x1,rfl,_⟩,a2,b2,rfl,⟨x2,rfl⟩,a3,b3,rfl,⟨x3,rfl,_⟩,rfl⟩:=h
 skip
 refine ⟨⟨x0,x1,x2,x3⟩,?_,?_⟩
 ·simp only [TValue.c,List.cons_append,List.nil_append,List.append_nil]
 ·simp only [TValue.n,zbS,zbp,D.bulk] at *;omega
theorem TValue.ofE (cs:List D) (h:zbq ExP TValue.ty cs):∃ y:TValue,zce TValue.ty cs=TValue.e false y∧TValue.n y + 1<=(zce TValue.ty cs).bulk:=by
 obtain ⟨x,rfl,g⟩:=TValue.of cs h
 exact ⟨x,rfl,by simp only [TValue.ty,zce,D.bulk] at *;omega⟩
def TObject.ty:Ty:=.st [(.int .i64),(.int .i64),.str,(.int .i64),(.sl TValue.ty 4),(.sl TValue.ty 4),TValue.ty]
theorem TObject.of (ds:List D) (h:zbq ExP TObject.ty ds):∃ x:TObject,ds=TObject.c false x∧TObject.n x<=zbp ds:=by
 simp only [TObject.ty,zbq,zfN] at h
 obtain ⟨a0,b0,rfl,⟨x0,rfl,_⟩,a1,b1,rfl,⟨x1,rfl,_⟩,a2,b2,rfl,⟨x2,rfl⟩,a3,b3,rfl,⟨x3,rfl,_⟩,a4,b4,rfl,⟨y4,rfl,h4⟩,a5,b5,rfl,⟨y5,rfl,h5⟩,a6,b6,rfl,h6,rfl⟩:=h
 obtain ⟨x4,rfl,g4⟩:=zfA (Ex:=ExP) (TValue.e false) TValue.n TValue.ty TValue.ofE y4 h4
 obtain ⟨x5,rfl,g5⟩:=zfA (Ex:=ExP) (TValue.e false) TValue.n TValue.ty TValue.ofE y5 h5
 obtain ⟨x6,rfl,g6⟩:=TValue.of a6 h6
 refine ⟨⟨x0,x1,x2,x3,x4,x5,x6⟩,?_,?_⟩
 ·simp only [TObject.c,TValue.c,List.cons_append,List.nil_append,List.append_nil]
 ·simp only [TObject.n,zbS,zbp,D.bulk] at *;omega
theorem TObject.ofE (cs:List D) (h:zbq ExP TObject.ty cs):∃ y:TObject,zce TObject.ty cs=TObject.e false y∧TObject.n y + 1<=(zce TObject.ty cs).bulk:=by
 obtain ⟨x,rfl,g⟩:=TObject.of cs h
 exact ⟨x,rfl,by simp only [TObject.ty,zce,D.bulk] at *;omega⟩
def THeap.ty:Ty:=.st [(.int .i64),(.sl TObject.ty 10)]
theorem THeap.of (ds:List D) (h:zbq ExP THeap.ty ds):∃ x:THeap,ds=THeap.c false x∧THeap.n x<=zbp ds:=by
 simp only [THeap.ty,zbq,zfN] at h
 obtain ⟨a0,b0,rfl,⟨x0,rfl,_⟩,a1,b1,rfl,⟨y1,rfl,h1⟩,rfl⟩:=h
 obtain ⟨x1,rfl,g1⟩:=zfA (Ex:=ExP) (TObject.e false) TObject.n TObject.ty TObject.ofE y1 h1
 refine ⟨⟨x0,x1⟩,?_,?_⟩
 ·simp only [THeap.c,List.cons_append,List.nil_append,List.append_nil]
 ·simp only [THeap.n,zbS,zbp,D.bulk] at *;omega
theorem THeap.ofE (cs:List D) (h:zbq ExP THeap.ty cs):∃ y:THeap,zce THeap.ty cs=THeap.e false y∧THeap.n y + 1<=(zce THeap.ty cs).bulk:=by
 obtain ⟨x,rfl,g⟩:=THeap.of cs h
 exact ⟨x,rfl,by simp only [THeap.ty,zce,D.bulk] at *;omega⟩
def TBinding.ty:Ty:=.st [.str,TValue.ty]
theorem TBinding.of (ds:List D) (h:zbq ExP TBinding.ty ds):∃ x:TBinding,ds=TBinding.c false x∧TBinding.n x<=zbp ds:=by
 simp only [TBinding.ty,zbq,zfN] at h
 obtain ⟨a0,b0,rfl,⟨x0,rfl⟩,a1,b1,rfl,h1,rfl⟩:=h
 obtain ⟨x1,rfl,g1⟩:=TValue.of a1 h1
 refine ⟨⟨x0,x1⟩,?_,?_⟩
 ·simp only [TBinding.c,TValue.c,List.cons_append,List.nil_append,List.append_nil]
 ·simp only [TBinding.n,zbS,zbp,D.bulk] at *;omega
theorem TBinding.ofE (cs:List D) (h:zbq ExP TBinding.ty cs):∃ y:TBinding,zce TBinding.ty cs=TBinding.e false y∧TBinding.n y + 1<=(zce TBinding.ty cs).bulk:=by
 obtain ⟨x,rfl,g⟩:=TBinding.of cs h
 exact ⟨x,rfl,by simp only [TBinding.ty,zce,D.bulk] at *;omega⟩
def TGen.ty:Ty:=.ex 0 8
def TGen.tys:List Ty:=[(.int .i64),(.int .i64),.str,TValue.ty,(.sl TGen.ty 8)]
theorem TGen.of (ds:List D) (h:zbq ExP TGen.ty ds):∃ x:TGen,ds=TGen.c false x∧TGen.n x<=zbp ds:=h
theorem TGen.ofE (cs:List D) (h:zbq ExP TGen.ty cs):∃ y:TGen,zce TGen.ty cs=TGen.e false y∧TGen.n y + 1<=(zce TGen.ty cs).bulk:=by
 obtain ⟨x,rfl,g⟩:=TGen.of cs h
 exact ⟨x,(TGen.e_c false x).symm,by simp only [TGen.ty,zce,D.bulk] at *;omega⟩
theorem TGen.of0 (ds:List D) (h:zfN ExP TGen.tys ds):∃ x:TGen,ds=TGen.c false x∧TGen.n x<=zbp ds:=by
 simp only [TGen.tys,zbq,zfN] at h
 obtain ⟨a0,b0,rfl,⟨x0,rfl,_⟩,a1,b1,rfl,⟨x1,rfl,_⟩,a2,b2,rfl,⟨x2,rfl⟩,a3,b3,rfl,h3,a4,b4,rfl,⟨y4,rfl,h4⟩,rfl⟩:=h
 obtain ⟨x3,rfl,g3⟩:=TValue.of a3 h3
 obtain ⟨x4,rfl,g4⟩:=zfA (Ex:=ExP) (TGen.e false) TGen.n TGen.ty TGen.ofE y4 h4
 refine ⟨⟨x0,x1,x2,x3,x4⟩,?_,?_⟩
 ·simp only [TGen.c,TValue.c,List.cons_append,List.nil_append,List.append_nil]
 ·rw [TGen.n_eq];simp only [zbS,zbp,D.bulk] at *;omega
def TCursor.ty:Ty:=.ex 1 4
def TCursor.tys:List Ty:=[(.int .i64),(.int .i64),(.sl TValue.ty 4),(.sl TCursor.ty 4)]
theorem TCursor.of (ds:List D) (h:zbq ExP TCursor.ty ds):∃ x:TCursor,ds=TCursor.c false x∧TCursor.n x<=zbp ds:=h
theorem TCursor.ofE (cs:List D) (h:zbq ExP TCursor.ty cs):∃ y:TCursor,zce TCursor.ty cs=TCursor.e false y∧TCursor.n y + 1<=(zce TCursor.ty cs).bulk:=by
 obtain ⟨x,rfl,g⟩:=TCursor.of cs h
 exact ⟨x,(TCursor.e_c false x).symm,by simp only [TCursor.ty,zce,D.bulk] at *;omega⟩
theorem TCursor.of0 (ds:List D) (h:zfN ExP TCursor.tys ds):∃ x:TCursor,ds=TCursor.c false x∧TCursor.n x<=zbp ds:=by
 simp only [TCursor.tys,zbq,zfN] at h
 obtain ⟨a0,b0,rfl,⟨x0,rfl,_⟩,a1,b1,rfl,⟨x1,rfl,_⟩,a2,b2,rfl,⟨y2,rfl,h2⟩,a3,b3,rfl,⟨y3,rfl,h3⟩,rfl⟩:=h
 obtain ⟨x2,rfl,g2⟩:=zfA (Ex:=ExP) (TValue.e false) TValue.n TValue.ty TValue.ofE y2 h2
 obtain ⟨x3,rfl,g3⟩:=zfA (Ex:=ExP) (TCursor.e false) TCursor.n TCursor.ty TCursor.ofE y3 h3
 refine ⟨⟨x0,x1,x2,x3⟩,?_,?_⟩
 ·simp only [TCursor.c,List.cons_append,List.nil_append,List.append_nil]
 ·rw [TCursor.n_eq];simp only [zbS,zbp,D.bulk] at *;omega
def TCoexpr.ty:Ty:=.st [(.int .i64),TGen.ty,(.sl TBinding.ty 5),(.sl TBinding.ty 5),TCursor.ty,(.int .i64),.bool]
theorem TCoexpr.of (ds:List D) (h:zbq ExP TCoexpr.ty ds):∃ x:TCoexpr,ds=TCoexpr.c false x∧TCoexpr.n x<=zbp ds:=by
 simp only [TCoexpr.ty,zbq,zfN] at h
 obtain ⟨a0,b0,rfl,⟨x0,rfl,_⟩,a1,b1,rfl,h1,a2,b2,rfl,⟨y2,rfl,h2⟩,a3,b3,rfl,⟨y3,rfl,h3⟩,a4,b4,rfl,h4,a5,b5,rfl,⟨x5,rfl,_⟩,a6,b6,rfl,⟨x6,rfl⟩,rfl⟩:=h
 obtain ⟨x1,rfl,g1⟩:=TGen.of a1 h1
 obtain ⟨x2,rfl,g2⟩:=zfA (Ex:=ExP) (TBinding.e false) TBinding.n TBinding.ty TBinding.ofE y2 h2
 obtain ⟨x3,rfl,g3⟩:=zfA (Ex:=ExP) (TBinding.e false) TBinding.n TBinding.ty TBinding.ofE y3 h3
 obtain ⟨x4,rfl,g4⟩:=TCursor.of a4 h4
 refine ⟨⟨x0,x1,x2,x3,x4,x5,x6⟩,?_,?_⟩
 ·simp only [TCoexpr.c,TGen.c,TValue.c,TCursor.c,List.cons_append,List.nil_append,List.append_nil]
 ·simp only [TCoexpr.n,zbS,zbp,D.bulk] at *;omega
theorem TCoexpr.ofE (cs:List D) (h:zbq ExP TCoexpr.ty cs):∃ y:TCoexpr,zce TCoexpr.ty cs=TCoexpr.e false y∧TCoexpr.n y + 1<=(zce TCoexpr.ty cs).bulk:=by
 obtain ⟨x,rfl,g⟩:=TCoexpr.of cs h
 exact ⟨x,rfl,by simp only [TCoexpr.ty,zce,D.bulk] at *;omega⟩
def TGenScope.ty:Ty:=.st [(.sl TBinding.ty 5),THeap.ty,(.sl TCoexpr.ty 17),(.int .i64)]
theorem TGenScope.of (ds:List D) (h:zbq ExP TGenScope.ty ds):∃ x:TGenScope,ds=TGenScope.c false x∧TGenScope.n x<=zbp ds:=by
 simp only [TGenScope.ty,zbq,zfN] at h
 obtain ⟨a0,b0,rfl,⟨y0,rfl,h0⟩,a1,b1,rfl,h1,a2,b2,rfl,⟨y2,rfl,h2⟩,a3,b3,rfl,⟨x3,rfl,_⟩,rfl⟩:=h
 obtain ⟨x0,rfl,g0⟩:=zfA (Ex:=ExP) (TBinding.e false) TBinding.n TBinding.ty TBinding.ofE y0 h0
 obtain ⟨x1,rfl,g1⟩:=THeap.of a1 h1
 obtain ⟨x2,rfl,g2⟩:=zfA (Ex:=ExP) (TCoexpr.e false) TCoexpr.n TCoexpr.ty TCoexpr.ofE y2 h2
 refine ⟨⟨x0,x1,x2,x3⟩,?_,?_⟩
 ·simp only [TGenScope.c,THeap.c,List.cons_append,List.nil_append,List.append_nil]
 ·simp only [TGenScope.n,zbS,zbp,D.bulk] at *;omega
theorem TGenScope.ofE (cs:List D) (h:zbq ExP TGenScope.ty cs):∃ y:TGenScope,zce TGenScope.ty cs=TGenScope.e false y∧TGenScope.n y + 1<=(zce TGenScope.ty cs).bulk:=by
 obtain ⟨x,rfl,g⟩:=TGenScope.of cs h
 exact ⟨x,rfl,by simp only [TGenScope.ty,zce,D.bulk] at *;omega⟩
end Go.Vx

