/-
  The program's plain types: structures, the cells they lie in, their sizes and their marks.
-/
import Derived.Test.YtnaaflejkfaiaaaGreatVxD
set_option linter.unusedVariables false
set_option linter.unusedSimpArgs false
namespace Go.Vx
structure TValue where
 Kind:Int
 Num:Int
 Text:ByteArray
 Ref:Int
 deriving DecidableEq,Inhabited
def TValue.c (o:Bool) (x:TValue):List D:=[D.int .i64 x.Kind,D.int .i64 x.Num,D.str x.Text,D.int .i64 x.Ref]
def TValue.e (o:Bool) (x:TValue):D:=.agg (x.c o)
theorem TValue.cells (o:Bool) (x:TValue):(TValue.e o x).cells=[D.int .i64 x.Kind,D.int .i64 x.Num,D.str x.Text,D.int .i64 x.Ref]:=rfl
theorem TValue.wc (o:Bool) (x:TValue) (l:List D):(TValue.e o x).withCells l=.agg l:=rfl
theorem TValue.frz (o:Bool) (x:TValue):(TValue.e o x).freeze=TValue.e false x:=by simp only [TValue.e,TValue.c,vx]
theorem TValue.frzL (o:Bool) (xs:List TValue):zad (xs.map (TValue.e o))=xs.map (TValue.e false):=zaV (TValue.frz o) xs
theorem TValue.frzA (o:Bool) (xs:List TValue) (r:List D):zad (xs.map (TValue.e o)++r)=xs.map (TValue.e false)++zad r:=zbH (TValue.frz o) xs r
theorem TValue.nos (o:Bool) (x:TValue):(TValue.e o x).noS=true:=by simp only [TValue.e,TValue.c,vx]
theorem TValue.nosL (o:Bool) (xs:List TValue):noSL (xs.map (TValue.e o))=true:=zcr (TValue.nos o) xs
def TValue.n (x:TValue):Nat:=x.Text.size
def TValue.mk_ (x:TValue) (k:Int):TValue:={ Kind:=k,Num:=k + 1,Text:=mt (k + 1 + 1),Ref:=k + 1 + 1 + 1 }
def TValue.nx (x:TValue) (k:Int):Int:=k + 1 + 1 + 1 + 1
def TValue.m (x:TValue):Nat:=1 + 1 + 1 + 1
theorem TValue.nxm (x:TValue) (k:Int):TValue.nx x k=k + TValue.m x:=by
 simp only [TValue.nx,TValue.m] <;> omega
theorem TValue.mn (x:TValue):TValue.m x<=16 + 16 * TValue.n x:=by
 simp only [TValue.m,TValue.n];omega
structure TObject where
 Id:Int
 Kind:Int
 Name:ByteArray
 Low:Int
 Keys:List TValue
 Vals:List TValue
 Default:TValue
 deriving DecidableEq,Inhabited
def TObject.c (o:Bool) (x:TObject):List D:=[D.int .i64 x.Id,D.int .i64 x.Kind,D.str x.Name,D.int .i64 x.Low,D.sl o 4 (List.map (TValue.e false) x.Keys),D.sl o 4 (List.map (TValue.e false) x.Vals),D.int .i64 x.Default.Kind,D.int .i64 x.Default.Num,D.str x.Default.Text,D.int .i64 x.Default.Ref]
def TObject.e (o:Bool) (x:TObject):D:=.agg (x.c o)
theorem TObject.cells (o:Bool) (x:TObject):(TObject.e o x).cells=[D.int .i64 x.Id,D.int .i64 x.Kind,D.str x.Name,D.int .i64 x.Low,D.sl o 4 (List.map (TValue.e false) x.Keys),D.sl o 4 (List.map (TValue.e false) x.Vals),D.int .i64 x.Default.Kind,D.int .i64 x.Default.Num,D.str x.Default.Text,D.int .i64 x.Default.Ref]:=rfl
theorem TObject.wc (o:Bool) (x:TObject) (l:List D):(TObject.e o x).withCells l=.agg l:=rfl
theorem TObject.frz (o:Bool) (x:TObject):(TObject.e o x).freeze=TObject.e false x:=by simp only [TObject.e,TObject.c,vx,TValue.frzL]
theorem TObject.frzL (o:Bool) (xs:List TObject):zad (xs.map (TObject.e o))=xs.map (TObject.e false):=zaV (TObject.frz o) xs
theorem TObject.frzA (o:Bool) (xs:List TObject) (r:List D):zad (xs.map (TObject.e o)++r)=xs.map (TObject.e false)++zad r:=zbH (TObject.frz o) xs r
theorem TObject.nos (x:TObject):(TObject.e true x).noS=true:=by simp only [TObject.e,TObject.c,vx,TValue.nosL]
theorem TObject.nosL (xs:List TObject):noSL (xs.map (TObject.e true))=true:=zcr TObject.nos xs
def TObject.n (x:TObject):Nat:=x.Name.size + (x.Keys.length + lsum TValue.n x.Keys) + (x.Vals.length + lsum TValue.n x.Vals) + TValue.n x.Default
def TObject.mk_ (x:TObject) (k:Int):TObject:={ Id:=k,Kind:=k + 1,Name:=mt (k + 1 + 1),Low:=k + 1 + 1 + 1,Keys:=mkL TValue.mk_ TValue.nx x.Keys (k + 1 + 1 + 1 + 1),Vals:=mkL TValue.mk_ TValue.nx x.Vals (zab TValue.nx x.Keys (k + 1 + 1 + 1 + 1)),Default:={ Kind:=zab TValue.nx x.Vals (zab TValue.nx x.Keys (k + 1 + 1 + 1 + 1)),Num:=zab TValue.nx x.Vals (zab TValue.nx x.Keys (k + 1 + 1 + 1 + 1)) + 1,Text:=mt (zab TValue.nx x.Vals (zab TValue.nx x.Keys (k + 1 + 1 + 1 + 1)) + 1 + 1),Ref:=zab TValue.nx x.Vals (zab TValue.nx x.Keys (k + 1 + 1 + 1 + 1)) + 1 + 1 + 1 } }
def TObject.nx (x:TObject) (k:Int):Int:=zab TValue.nx x.Vals (zab TValue.nx x.Keys (k + 1 + 1 + 1 + 1)) + 1 + 1 + 1 + 1
def TObject.m (x:TObject):Nat:=1 + 1 + 1 + 1 + lsum TValue.m x.Keys + lsum TValue.m x.Vals + 1 + 1 + 1 + 1
theorem TObject.nxm (x:TObject) (k:Int):TObject.nx x k=k + TObject.m x:=by
 simp only [TObject.nx,TObject.m,zao TValue.nxm] <;> omega
theorem TObject.mn (x:TObject):TObject.m x<=16 + 16 * TObject.n x:=by
 have h0:=zbr TValue.mn x.Keys
 have h1:=zbr TValue.mn x.Vals
 simp only [TObject.m,TObject.n,TValue.n];omega
structure THeap where
 Next:Int
 Objects:List TObject
 deriving DecidableEq,Inhabited
def THeap.c (o:Bool) (x:THeap):List D:=[D.int .i64 x.Next,D.sl o 10 (List.map (TObject.e o) x.Objects)]
def THeap.e (o:Bool) (x:THeap):D:=.agg (x.c o)
theorem THeap.cells (o:Bool) (x:THeap):(THeap.e o x).cells=[D.int .i64 x.Next,D.sl o 10 (List.map (TObject.e o) x.Objects)]:=rfl
theorem THeap.wc (o:Bool) (x:THeap) (l:List D):(THeap.e o x).withCells l=.agg l:=rfl
theorem THeap.frz (o:Bool) (x:THeap):(THeap.e o x).freeze=THeap.e false x:=by simp only [THeap.e,THeap.c,vx,TObject.frzL]
theorem THeap.frzL (o:Bool) (xs:List THeap):zad (xs.map (THeap.e o))=xs.map (THeap.e false):=zaV (THeap.frz o) xs
theorem THeap.frzA (o:Bool) (xs:List THeap) (r:List D):zad (xs.map (THeap.e o)++r)=xs.map (THeap.e false)++zad r:=zbH (THeap.frz o) xs r
theorem THeap.nos (x:THeap):(THeap.e true x).noS=true:=by simp only [THeap.e,THeap.c,vx,TObject.nosL]
theorem THeap.nosL (xs:List THeap):noSL (xs.map (THeap.e true))=true:=zcr THeap.nos xs
def THeap.n (x:THeap):Nat:=(x.Objects.length + lsum TObject.n x.Objects)
def THeap.mk_ (x:THeap) (k:Int):THeap:={ Next:=k,Objects:=mkL TObject.mk_ TObject.nx x.Objects (k + 1) }
def THeap.nx (x:THeap) (k:Int):Int:=zab TObject.nx x.Objects (k + 1)
def THeap.m (x:THeap):Nat:=1 + lsum TObject.m x.Objects
theorem THeap.nxm (x:THeap) (k:Int):THeap.nx x k=k + THeap.m x:=by
 simp only [THeap.nx,THeap.m,zao TObject.nxm] <;> omega
theorem THeap.mn (x:THeap):THeap.m x<=16 + 16 * THeap.n x:=by
 have h0:=zbr TObject.mn x.Objects
 simp only [THeap.m,THeap.n];omega
structure TBinding where
 Name:ByteArray
 Value:TValue
 deriving DecidableEq,Inhabited
def TBinding.c (o:Bool) (x:TBinding):List D:=[D.str x.Name,D.int .i64 x.Value.Kind,D.int .i64 x.Value.Num,D.str x.Value.Text,D.int .i64 x.Value.Ref]
def TBinding.e (o:Bool) (x:TBinding):D:=.agg (x.c o)
theorem TBinding.cells (o:Bool) (x:TBinding):(TBinding.e o x).cells=[D.str x.Name,D.int .i64 x.Value.Kind,D.int .i64 x.Value.Num,D.str x.Value.Text,D.int .i64 x.Value.Ref]:=rfl
theorem TBinding.wc (o:Bool) (x:TBinding) (l:List D):(TBinding.e o x).withCells l=.agg l:=rfl
theorem TBinding.frz (o:Bool) (x:TBinding):(TBinding.e o x).freeze=TBinding.e false x:=by simp only [TBinding.e,TBinding.c,vx]
theorem TBinding.frzL (o:Bool) (xs:List TBinding):zad (xs.map (TBinding.e o))=xs.map (TBinding.e false):=zaV (TBinding.frz o) xs
theorem TBinding.frzA (o:Bool) (xs:List TBinding) (r:List D):zad (xs.map (TBinding.e o)++r)=xs.map (TBinding.e false)++zad r:=zbH (TBinding.frz o) xs r
theorem TBinding.nos (o:Bool) (x:TBinding):(TBinding.e o x).noS=true:=by simp only [TBinding.e,TBinding.c,vx]
theorem TBinding.nosL (o:Bool) (xs:List TBinding):noSL (xs.map (TBinding.e o))=true:=zcr (TBinding.nos o) xs
def TBinding.n (x:TBinding):Nat:=x.Name.size + TValue.n x.Value
def TBinding.mk_ (x:TBinding) (k:Int):TBinding:={ Name:=mt (k),Value:={ Kind:=k + 1,Num:=k + 1 + 1,Text:=mt (k + 1 + 1 + 1),Ref:=k + 1 + 1 + 1 + 1 } }
def TBinding.nx (x:TBinding) (k:Int):Int:=k + 1 + 1 + 1 + 1 + 1
def TBinding.m (x:TBinding):Nat:=1 + 1 + 1 + 1 + 1
theorem TBinding.nxm (x:TBinding) (k:Int):TBinding.nx x k=k + TBinding.m x:=by
 simp only [TBinding.nx,TBinding.m] <;> omega
theorem TBinding.mn (x:TBinding):TBinding.m x<=16 + 16 * TBinding.n x:=by
 simp only [TBinding.m,TBinding.n,TValue.n];omega
structure TGen where
 Kind:Int
 Num:Int
 Text:ByteArray
 Value:TValue
 Kids:List TGen
 deriving Inhabited
mutual
def TGen.e (o:Bool):TGen->D
 | ⟨y0,y1,y2,y3,y4⟩=>.agg [D.int .i64 y0,D.int .i64 y1,D.str y2,D.int .i64 y3.Kind,D.int .i64 y3.Num,D.str y3.Text,D.int .i64 y3.Ref,D.sl o 8 (TGen.eL o y4)]
def TGen.eL (o:Bool):List TGen->List D
 | []=>[]
 | x::r=>TGen.e o x::TGen.eL o r
end
theorem TGen.eL_map (o:Bool):∀ l:List TGen,TGen.eL o l=l.map (TGen.e o)
 | []=>rfl
 | x::r=>by rw [TGen.eL,TGen.eL_map o r,List.map_cons]
def TGen.c (o:Bool) (x:TGen):List D:=[D.int .i64 x.Kind,D.int .i64 x.Num,D.str x.Text,D.int .i64 x.Value.Kind,D.int .i64 x.Value.Num,D.str x.Value.Text,D.int .i64 x.Value.Ref,D.sl o 8 (List.map (TGen.e o) x.Kids)]
theorem TGen.e_c (o:Bool) (x:TGen):TGen.e o x=.agg (TGen.c o x):=by
 cases x;simp only [TGen.e,TGen.c,TGen.eL_map]
theorem TGen.e_eq (o:Bool) (x:TGen):TGen.e o x=D.agg [D.int .i64 x.Kind,D.int .i64 x.Num,D.str x.Text,D.int .i64 x.Value.Kind,D.int .i64 x.Value.Num,D.str x.Value.Text,D.int .i64 x.Value.Ref,D.sl o 8 (List.map (TGen.e o) x.Kids)]:=TGen.e_c o x
theorem TGen.ind {P:TGen->Prop} (h:∀ x:TGen,(∀ y ∈ x.Kids,P y)->P x):∀ x,P x:=by
 have key:∀ (n:Nat) (x:TGen),SizeOf.sizeOf x<=n->P x:=by
  intro n
  induction n with
  | zero=>intro x hx;cases x;simp at hx <;> omega
  | succ n ih =>
   intro x hx
   refine h x fun y hy=>ih y ?_
   have:=List.sizeOf_lt_of_mem hy
   cases x;simp at hx this ⊢ <;> omega
 exact fun x=>key _ x (Nat.le_refl _)
theorem TGen.cells (o:Bool) (x:TGen):(TGen.e o x).cells=[D.int .i64 x.Kind,D.int .i64 x.Num,D.str x.Text,D.int .i64 x.Value.Kind,D.int .i64 x.Value.Num,D.str x.Value.Text,D.int .i64 x.Value.Ref,D.sl o 8 (List.map (TGen.e o) x.Kids)]:=by rw [TGen.e_c];rfl
theorem TGen.wc (o:Bool) (x:TGen) (l:List D):(TGen.e o x).withCells l=.agg l:=by rw [TGen.e_c];rfl
theorem TGen.frzM {α:Type} {f g:α->D}:∀ {xs:List α},(∀ x ∈ xs,(f x).freeze=g x)->zad (xs.map f)=xs.map g
 | [],_=>rfl
 | x::r,h=>by simp only [List.map_cons,zad];rw [h x (List.mem_cons_self ..),TGen.frzM fun y hy=>h y (List.mem_cons_of_mem _ hy)]
theorem TGen.nosM {α:Type} {f:α->D}:∀ {xs:List α},(∀ x ∈ xs,(f x).noS=true)->noSL (xs.map f)=true
 | [],_=>rfl
 | x::r,h=>by simp only [List.map_cons,noSL];rw [h x (List.mem_cons_self ..),TGen.nosM fun y hy=>h y (List.mem_cons_of_mem _ hy)];rfl
theorem TGen.frz (o:Bool):∀ x:TGen,(TGen.e o x).freeze=TGen.e false x:=by
 refine TGen.ind fun x ih=>?_
 rw [TGen.e_eq,TGen.e_eq]
 simp only [vx,TGen.frzM ih]
theorem TGen.frzL (o:Bool) (xs:List TGen):zad (xs.map (TGen.e o))=xs.map (TGen.e false):=zaV (TGen.frz o) xs
theorem TGen.frzA (o:Bool) (xs:List TGen) (r:List D):zad (xs.map (TGen.e o)++r)=xs.map (TGen.e false)++zad r:=zbH (TGen.frz o) xs r
theorem TGen.nos:∀ x:TGen,(TGen.e true x).noS=true:=by
 refine TGen.ind fun x ih=>?_
 rw [TGen.e_eq]
 simp only [vx,TGen.nosM ih]
theorem TGen.nosL (xs:List TGen):noSL (xs.map (TGen.e true))=true:=zcr TGen.nos xs
mutual
def TGen.n:TGen->Nat
 | ⟨y0,y1,y2,y3,y4⟩=>y2.size + TValue.n y3 + (y4.length + TGen.nL y4)
def TGen.nL:List TGen->Nat
 | []=>0
 | x::r=>TGen.n x + TGen.nL r
end
theorem TGen.nL_sum:∀ l:List TGen,TGen.nL l=lsum TGen.n l
 | []=>rfl
 | x::r=>by rw [TGen.nL,TGen.nL_sum r,zae]
theorem TGen.n_eq (x:TGen):TGen.n x=x.Text.size + TValue.n x.Value + (x.Kids.length + lsum TGen.n x.Kids):=by
 cases x;simp only [TGen.n,TGen.nL_sum]
mutual
def TGen.nx:TGen->Int->Int
 | ⟨y0,y1,y2,y3,y4⟩,k=>TGen.nxL y4 (k + 1 + 1 + 1 + 1 + 1 + 1 + 1)
def TGen.nxL:List TGen->Int->Int
 | [],k=>k
 | x::r,k=>TGen.nxL r (TGen.nx x k)
end
mutual
def TGen.mk_:TGen->Int->TGen
 | ⟨y0,y1,y2,y3,y4⟩,k=>⟨k,k + 1,mt (k + 1 + 1),{ Kind:=k + 1 + 1 + 1,Num:=k + 1 + 1 + 1 + 1,Text:=mt (k + 1 + 1 + 1 + 1 + 1),Ref:=k + 1 + 1 + 1 + 1 + 1 + 1 },TGen.mkLL y4 (k + 1 + 1 + 1 + 1 + 1 + 1 + 1)⟩
def TGen.mkLL:List TGen->Int->List TGen
 | [],_=>[]
 | x::r,k=>TGen.mk_ x k::TGen.mkLL r (TGen.nx x k)
end
mutual
def TGen.m:TGen->Nat
 | ⟨y0,y1,y2,y3,y4⟩=>1 + 1 + 1 + 1 + 1 + 1 + 1 + TGen.mL y4
def TGen.mL:List TGen->Nat
 | []=>0
 | x::r=>TGen.m x + TGen.mL r
end
theorem TGen.nxL_eq:∀ (l:List TGen) (k:Int),TGen.nxL l k=zab TGen.nx l k
 | [],k=>rfl
 | x::r,k=>by rw [TGen.nxL,TGen.nxL_eq r,zab]
theorem TGen.mkLL_eq:∀ (l:List TGen) (k:Int),TGen.mkLL l k=mkL TGen.mk_ TGen.nx l k
 | [],k=>rfl
 | x::r,k=>by rw [TGen.mkLL,TGen.mkLL_eq r,mkL]
theorem TGen.mL_eq:∀ l:List TGen,TGen.mL l=lsum TGen.m l
 | []=>rfl
 | x::r=>by rw [TGen.mL,TGen.mL_eq r,zae]
theorem TGen.nx_eq (x:TGen) (k:Int):TGen.nx x k=zab TGen.nx x.Kids (k + 1 + 1 + 1 + 1 + 1 + 1 + 1):=by
 cases x;simp only [TGen.nx,TGen.nxL_eq]
theorem TGen.mk_eq (x:TGen) (k:Int):TGen.mk_ x k={ Kind:=k,Num:=k + 1,Text:=mt (k + 1 + 1),Value:={ Kind:=k + 1 + 1 + 1,Num:=k + 1 + 1 + 1 + 1,Text:=mt (k + 1 + 1 + 1 + 1 + 1),Ref:=k + 1 + 1 + 1 + 1 + 1 + 1 },Kids:=mkL TGen.mk_ TGen.nx x.Kids (k + 1 + 1 + 1 + 1 + 1 + 1 + 1) }:=by
 cases x;simp only [TGen.mk_,TGen.mkLL_eq]
theorem TGen.m_eq (x:TGen):TGen.m x=1 + 1 + 1 + 1 + 1 + 1 + 1 + lsum TGen.m x.Kids:=by
 cases x;simp only [TGen.m,TGen.mL_eq]
theorem TGen.foldM {α:Type} {f:α->Int->Int} {m:α->Nat}:∀ (xs:List α),(∀ x ∈ xs,∀ k,f x k=k + m x)->∀ k:Int,zab f xs k=k + lsum m xs
 | [],_,k=>by simp [zab,zcq]
 | x::r,h,k=>by rw [zab,h x (List.mem_cons_self ..),TGen.foldM r (fun y hy=>h y (List.mem_cons_of_mem _ hy)),zae];omega
theorem TGen.sumM {α:Type} {m n:α->Nat}:∀ (xs:List α),(∀ x ∈ xs,m x<=16 + 16 * n x)->lsum m xs<=16 * (xs.length + lsum n xs)
 | [],_=>by simp [zcq]
 | x::r,h=>by rw [zae,zae,List.length_cons];have:=h x (List.mem_cons_self ..);have:=TGen.sumM r (fun y hy=>h y (List.mem_cons_of_mem _ hy));omega
theorem TGen.nxm:∀ (x:TGen) (k:Int),TGen.nx x k=k + TGen.m x:=by
 refine TGen.ind fun x ih k=>?_
 have hi:=fun k=>TGen.foldM x.Kids ih k
 rw [TGen.nx_eq,TGen.m_eq]
 simp only [hi];omega
theorem TGen.mn:∀ x:TGen,TGen.m x<=16 + 16 * TGen.n x:=by
 refine TGen.ind fun x ih=>?_
 have hi:=TGen.sumM x.Kids ih
 rw [TGen.m_eq,TGen.n_eq]
 simp only [TValue.n] at *;omega
structure TCursor where
 Phase:Int
 Count:Int
 Vals:List TValue
 Kids:List TCursor
 deriving Inhabited
mutual
def TCursor.e (o:Bool):TCursor->D
 | ⟨y0,y1,y2,y3⟩=>.agg [D.int .i64 y0,D.int .i64 y1,D.sl o 4 (List.map (TValue.e false) y2),D.sl o 4 (TCursor.eL o y3)]
def TCursor.eL (o:Bool):List TCursor->List D
 | []=>[]
 | x::r=>TCursor.e o x::TCursor.eL o r
end
theorem TCursor.eL_map (o:Bool):∀ l:List TCursor,TCursor.eL o l=l.map (TCursor.e o)
 | []=>rfl
 | x::r=>by rw [TCursor.eL,TCursor.eL_map o r,List.map_cons]
def TCursor.c (o:Bool) (x:TCursor):List D:=[D.int .i64 x.Phase,D.int .i64 x.Count,D.sl o 4 (List.map (TValue.e false) x.Vals),D.sl o 4 (List.map (TCursor.e o) x.Kids)]
theorem TCursor.e_c (o:Bool) (x:TCursor):TCursor.e o x=.agg (TCursor.c o x):=by
 cases x;simp only [TCursor.e,TCursor.c,TCursor.eL_map]
theorem TCursor.e_eq (o:Bool) (x:TCursor):TCursor.e o x=D.agg [D.int .i64 x.Phase,D.int .i64 x.Count,D.sl o 4 (List.map (TValue.e false) x.Vals),D.sl o 4 (List.map (TCursor.e o) x.Kids)]:=TCursor.e_c o x
theorem TCursor.ind {P:TCursor->Prop} (h:∀ x:TCursor,(∀ y ∈ x.Kids,P y)->P x):∀ x,P x:=by
 have key:∀ (n:Nat) (x:TCursor),SizeOf.sizeOf x<=n->P x:=by
  intro n
  induction n with
  | zero=>intro x hx;cases x;simp at hx <;> omega
  | succ n ih =>
   intro x hx
   refine h x fun y hy=>ih y ?_
   have:=List.sizeOf_lt_of_mem hy
   cases x;simp at hx this ⊢ <;> omega
 exact fun x=>key _ x (Nat.le_refl _)
theorem TCursor.cells (o:Bool) (x:TCursor):(TCursor.e o x).cells=[D.int .i64 x.Phase,D.int .i64 x.Count,D.sl o 4 (List.map (TValue.e false) x.Vals),D.sl o 4 (List.map (TCursor.e o) x.Kids)]:=by rw [TCursor.e_c];rfl
theorem TCursor.wc (o:Bool) (x:TCursor) (l:List D):(TCursor.e o x).withCells l=.agg l:=by rw [TCursor.e_c];rfl
theorem TCursor.frzM {α:Type} {f g:α->D}:∀ {xs:List α},(∀ x ∈ xs,(f x).freeze=g x)->zad (xs.map f)=xs.map g
 | [],_=>rfl
 | x::r,h=>by simp only [List.map_cons,zad];rw [h x (List.mem_cons_self ..),TCursor.frzM fun y hy=>h y (List.mem_cons_of_mem _ hy)]
theorem TCursor.nosM {α:Type} {f:α->D}:∀ {xs:List α},(∀ x ∈ xs,(f x).noS=true)->noSL (xs.map f)=true
 | [],_=>rfl
 | x::r,h=>by simp only [List.map_cons,noSL];rw [h x (List.mem_cons_self ..),TCursor.nosM fun y hy=>h y (List.mem_cons_of_mem _ hy)];rfl
theorem TCursor.frz (o:Bool):∀ x:TCursor,(TCursor.e o x).freeze=TCursor.e false x:=by
 refine TCursor.ind fun x ih=>?_
 rw [TCursor.e_eq,TCursor.e_eq]
 simp only [vx,TCursor.frzM ih,TValue.frzL]
theorem TCursor.frzL (o:Bool) (xs:List TCursor):zad (xs.map (TCursor.e o))=xs.map (TCursor.e false):=zaV (TCursor.frz o) xs
theorem TCursor.frzA (o:Bool) (xs:List TCursor) (r:List D):zad (xs.map (TCursor.e o)++r)=xs.map (TCursor.e false)++zad r:=zbH (TCursor.frz o) xs r
theorem TCursor.nos:∀ x:TCursor,(TCursor.e true x).noS=true:=by
 refine TCursor.ind fun x ih=>?_
 rw [TCursor.e_eq]
 simp only [vx,TCursor.nosM ih,TValue.nosL]
theorem TCursor.nosL (xs:List TCursor):noSL (xs.map (TCursor.e true))=true:=zcr TCursor.nos xs
mutual
def TCursor.n:TCursor->Nat
 | ⟨y0,y1,y2,y3⟩=>(y2.length + lsum TValue.n y2) + (y3.length + TCursor.nL y3)
def TCursor.nL:List TCursor->Nat
 | []=>0
 | x::r=>TCursor.n x + TCursor.nL r
end
theorem TCursor.nL_sum:∀ l:List TCursor,TCursor.nL l=lsum TCursor.n l
 | []=>rfl
 | x::r=>by rw [TCursor.nL,TCursor.nL_sum r,zae]
theorem TCursor.n_eq (x:TCursor):TCursor.n x=(x.Vals.length + lsum TValue.n x.Vals) + (x.Kids.length + lsum TCursor.n x.Kids):=by
 cases x;simp only [TCursor.n,TCursor.nL_sum]
mutual
def TCursor.nx:TCursor->Int->Int
 | ⟨y0,y1,y2,y3⟩,k=>TCursor.nxL y3 (zab TValue.nx y2 (k + 1 + 1))
def TCursor.nxL:List TCursor->Int->Int
 | [],k=>k
 | x::r,k=>TCursor.nxL r (TCursor.nx x k)
end
mutual
def TCursor.mk_:TCursor->Int->TCursor
 | ⟨y0,y1,y2,y3⟩,k=>⟨k,k + 1,mkL TValue.mk_ TValue.nx y2 (k + 1 + 1),TCursor.mkLL y3 (zab TValue.nx y2 (k + 1 + 1))⟩
def TCursor.mkLL:List TCursor->Int->List TCursor
 | [],_=>[]
 | x::r,k=>TCursor.mk_ x k::TCursor.mkLL r (TCursor.nx x k)
end
mutual
def TCursor.m:TCursor->Nat
 | ⟨y0,y1,y2,y3⟩=>1 + 1 + lsum TValue.m y2 + TCursor.mL y3
def TCursor.mL:List TCursor->Nat
 | []=>0
 | x::r=>TCursor.m x + TCursor.mL r
end
theorem TCursor.nxL_eq:∀ (l:List TCursor) (k:Int),TCursor.nxL l k=zab TCursor.nx l k
 | [],k=>rfl
 | x::r,k=>by rw [TCursor.nxL,TCursor.nxL_eq r,zab]
theorem TCursor.mkLL_eq:∀ (l:List TCursor) (k:Int),TCursor.mkLL l k=mkL TCursor.mk_ TCursor.nx l k
 | [],k=>rfl
 | x::r,k=>by rw [TCursor.mkLL,TCursor.mkLL_eq r,mkL]
theorem TCursor.mL_eq:∀ l:List TCursor,TCursor.mL l=lsum TCursor.m l
 | []=>rfl
 | x::r=>by rw [TCursor.mL,TCursor.mL_eq r,zae]
theorem TCursor.nx_eq (x:TCursor) (k:Int):TCursor.nx x k=zab TCursor.nx x.Kids (zab TValue.nx x.Vals (k + 1 + 1)):=by
 cases x;simp only [TCursor.nx,TCursor.nxL_eq]
theorem TCursor.mk_eq (x:TCursor) (k:Int):TCursor.mk_ x k={ Phase:=k,Count:=k + 1,Vals:=mkL TValue.mk_ TValue.nx x.Vals (k + 1 + 1),Kids:=mkL TCursor.mk_ TCursor.nx x.Kids (zab TValue.nx x.Vals (k + 1 + 1)) }:=by
 cases x;simp only [TCursor.mk_,TCursor.mkLL_eq]
theorem TCursor.m_eq (x:TCursor):TCursor.m x=1 + 1 + lsum TValue.m x.Vals + lsum TCursor.m x.Kids:=by
 cases x;simp only [TCursor.m,TCursor.mL_eq]
theorem TCursor.foldM {α:Type} {f:α->Int->Int} {m:α->Nat}:∀ (xs:List α),(∀ x ∈ xs,∀ k,f x k=k + m x)->∀ k:Int,zab f xs k=k + lsum m xs
 | [],_,k=>by simp [zab,zcq]
 | x::r,h,k=>by rw [zab,h x (List.mem_cons_self ..),TCursor.foldM r (fun y hy=>h y (List.mem_cons_of_mem _ hy)),zae];omega
theorem TCursor.sumM {α:Type} {m n:α->Nat}:∀ (xs:List α),(∀ x ∈ xs,m x<=16 + 16 * n x)->lsum m xs<=16 * (xs.length + lsum n xs)
 | [],_=>by simp [zcq]
 | x::r,h=>by rw [zae,zae,List.length_cons];have:=h x (List.mem_cons_self ..);have:=TCursor.sumM r (fun y hy=>h y (List.mem_cons_of_mem _ hy));omega
theorem TCursor.nxm:∀ (x:TCursor) (k:Int),TCursor.nx x k=k + TCursor.m x:=by
 refine TCursor.ind fun x ih k=>?_
 have hi:=fun k=>TCursor.foldM x.Kids ih k
 rw [TCursor.nx_eq,TCursor.m_eq]
 simp only [hi,zao TValue.nxm];omega
theorem TCursor.mn:∀ x:TCursor,TCursor.m x<=16 + 16 * TCursor.n x:=by
 refine TCursor.ind fun x ih=>?_
 have hi:=TCursor.sumM x.Kids ih
 have h0:=zbr TValue.mn x.Vals
 rw [TCursor.m_eq,TCursor.n_eq]
 omega
structure TCoexpr where
 Id:Int
 Body:TGen
 Start:List TBinding
 Vars:List TBinding
 Cursor:TCursor
 Count:Int
 Done:Bool
 deriving Inhabited
def TCoexpr.c (o:Bool) (x:TCoexpr):List D:=[D.int .i64 x.Id,D.int .i64 x.Body.Kind,D.int .i64 x.Body.Num,D.str x.Body.Text,D.int .i64 x.Body.Value.Kind,D.int .i64 x.Body.Value.Num,D.str x.Body.Value.Text,D.int .i64 x.Body.Value.Ref,D.sl o 8 (List.map (TGen.e o) x.Body.Kids),D.sl o 5 (List.map (TBinding.e false) x.Start),D.sl o 5 (List.map (TBinding.e false) x.Vars),D.int .i64 x.Cursor.Phase,D.int .i64 x.Cursor.Count,D.sl o 4 (List.map (TValue.e false) x.Cursor.Vals),D.sl o 4 (List.map (TCursor.e o) x.Cursor.Kids),D.int .i64 x.Count,D.bool x.Done]
def TCoexpr.e (o:Bool) (x:TCoexpr):D:=.agg (x.c o)
theorem TCoexpr.cells (o:Bool) (x:TCoexpr):(TCoexpr.e o x).cells=[D.int .i64 x.Id,D.int .i64 x.Body.Kind,D.int .i64 x.Body.Num,D.str x.Body.Text,D.int .i64 x.Body.Value.Kind,D.int .i64 x.Body.Value.Num,D.str x.Body.Value.Text,D.int .i64 x.Body.Value.Ref,D.sl o 8 (List.map (TGen.e o) x.Body.Kids),D.sl o 5 (List.map (TBinding.e false) x.Start),D.sl o 5 (List.map (TBinding.e false) x.Vars),D.int .i64 x.Cursor.Phase,D.int .i64 x.Cursor.Count,D.sl o 4 (List.map (TValue.e false) x.Cursor.Vals),D.sl o 4 (List.map (TCursor.e o) x.Cursor.Kids),D.int .i64 x.Count,D.bool x.Done]:=rfl
theorem TCoexpr.wc (o:Bool) (x:TCoexpr) (l:List D):(TCoexpr.e o x).withCells l=.agg l:=rfl
theorem TCoexpr.frz (o:Bool) (x:TCoexpr):(TCoexpr.e o x).freeze=TCoexpr.e false x:=by simp only [TCoexpr.e,TCoexpr.c,vx,TBinding.frzL,TCursor.frzL,TGen.frzL,TValue.frzL]
theorem TCoexpr.frzL (o:Bool) (xs:List TCoexpr):zad (xs.map (TCoexpr.e o))=xs.map (TCoexpr.e false):=zaV (TCoexpr.frz o) xs
theorem TCoexpr.frzA (o:Bool) (xs:List TCoexpr) (r:List D):zad (xs.map (TCoexpr.e o)++r)=xs.map (TCoexpr.e false)++zad r:=zbH (TCoexpr.frz o) xs r
theorem TCoexpr.nos (x:TCoexpr):(TCoexpr.e true x).noS=true:=by simp only [TCoexpr.e,TCoexpr.c,vx,TBinding.nosL,TCursor.nosL,TGen.nosL,TValue.nosL]
theorem TCoexpr.nosL (xs:List TCoexpr):noSL (xs.map (TCoexpr.e true))=true:=zcr TCoexpr.nos xs
def TCoexpr.n (x:TCoexpr):Nat:=TGen.n x.Body + (x.Start.length + lsum TBinding.n x.Start) + (x.Vars.length + lsum TBinding.n x.Vars) + TCursor.n x.Cursor
def TCoexpr.mk_ (x:TCoexpr) (k:Int):TCoexpr:={ Id:=k,Body:={ Kind:=k + 1,Num:=k + 1 + 1,Text:=mt (k + 1 + 1 + 1),Value:={ Kind:=k + 1 + 1 + 1 + 1,Num:=k + 1 + 1 + 1 + 1 + 1,Text:=mt (k + 1 + 1 + 1 + 1 + 1 + 1),Ref:=k + 1 + 1 + 1 + 1 + 1 + 1 + 1 },Kids:=mkL TGen.mk_ TGen.nx x.Body.Kids (k + 1 + 1 + 1 + 1 + 1 + 1 + 1 + 1) },Start:=mkL TBinding.mk_ TBinding.nx x.Start (zab TGen.nx x.Body.Kids (k + 1 + 1 + 1 + 1 + 1 + 1 + 1 + 1)),Vars:=mkL TBinding.mk_ TBinding.nx x.Vars (zab TBinding.nx x.Start (zab TGen.nx x.Body.Kids (k + 1 + 1 + 1 + 1 + 1 + 1 + 1 + 1))),Cursor:={ Phase:=zab TBinding.nx x.Vars (zab TBinding.nx x.Start (zab TGen.nx x.Body.Kids (k + 1 + 1 + 1 + 1 + 1 + 1 + 1 + 1))),Count:=zab TBinding.nx x.Vars (zab TBinding.nx x.Start (zab TGen.nx x.Body.Kids (k + 1 + 1 + 1 + 1 + 1 + 1 + 1 + 1))) + 1,Vals:=mkL TValue.mk_ TValue.nx x.Cursor.Vals (zab TBinding.nx x.Vars (zab TBinding.nx x.Start (zab TGen.nx x.Body.Kids (k + 1 + 1 + 1 + 1 + 1 + 1 + 1 + 1))) + 1 + 1),Kids:=mkL TCursor.mk_ TCursor.nx x.Cursor.Kids (zab TValue.nx x.Cursor.Vals (zab TBinding.nx x.Vars (zab TBinding.nx x.Start (zab TGen.nx x.Body.Kids (k + 1 + 1 + 1 + 1 + 1 + 1 + 1 + 1))) + 1 + 1)) },Count:=zab TCursor.nx x.Cursor.Kids (zab TValue.nx x.Cursor.Vals (zab TBinding.nx x.Vars (zab TBinding.nx x.Start (zab TGen.nx x.Body.Kids (k + 1 + 1 + 1 + 1 + 1 + 1 + 1 + 1))) + 1 + 1)),Done:=decide ((zab TCursor.nx x.Cursor.Kids (zab TValue.nx x.Cursor.Vals (zab TBinding.nx x.Vars (zab TBinding.nx x.Start (zab TGen.nx x.Body.Kids (k + 1 + 1 + 1 + 1 + 1 + 1 + 1 + 1))) + 1 + 1)) + 1).tmod 3=0) }
def TCoexpr.nx (x:TCoexpr) (k:Int):Int:=zab TCursor.nx x.Cursor.Kids (zab TValue.nx x.Cursor.Vals (zab TBinding.nx x.Vars (zab TBinding.nx x.Start (zab TGen.nx x.Body.Kids (k + 1 + 1 + 1 + 1 + 1 + 1 + 1 + 1))) + 1 + 1)) + 1 + 1
def TCoexpr.m (x:TCoexpr):Nat:=1 + 1 + 1 + 1 + 1 + 1 + 1 + 1 + lsum TGen.m x.Body.Kids + lsum TBinding.m x.Start + lsum TBinding.m x.Vars + 1 + 1 + lsum TValue.m x.Cursor.Vals + lsum TCursor.m x.Cursor.Kids + 1 + 1
theorem TCoexpr.nxm (x:TCoexpr) (k:Int):TCoexpr.nx x k=k + TCoexpr.m x:=by
 simp only [TCoexpr.nx,TCoexpr.m,zao TBinding.nxm,zao TCursor.nxm,zao TGen.nxm,zao TValue.nxm] <;> omega
theorem TCoexpr.mn (x:TCoexpr):TCoexpr.m x<=16 + 16 * TCoexpr.n x:=by
 have h0:=zbr TGen.mn x.Body.Kids
 have h1:=zbr TBinding.mn x.Start
 have h2:=zbr TBinding.mn x.Vars
 have h3:=zbr TValue.mn x.Cursor.Vals
 have h4:=zbr TCursor.mn x.Cursor.Kids
 simp only [TCoexpr.m,TCoexpr.n,TGen.n_eq,TValue.n,TCursor.n_eq];omega
structure TGenScope where
 Vars:List TBinding
 Heap:THeap
 Cos:List TCoexpr
 Steps:Int
 deriving Inhabited
def TGenScope.c (o:Bool) (x:TGenScope):List D:=[D.sl o 5 (List.map (TBinding.e false) x.Vars),D.int .i64 x.Heap.Next,D.sl o 10 (List.map (TObject.e o) x.Heap.Objects),D.sl o 17 (List.map (TCoexpr.e o) x.Cos),D.int .i64 x.Steps]
def TGenScope.e (o:Bool) (x:TGenScope):D:=.agg (x.c o)
theorem TGenScope.cells (o:Bool) (x:TGenScope):(TGenScope.e o x).cells=[D.sl o 5 (List.map (TBinding.e false) x.Vars),D.int .i64 x.Heap.Next,D.sl o 10 (List.map (TObject.e o) x.Heap.Objects),D.sl o 17 (List.map (TCoexpr.e o) x.Cos),D.int .i64 x.Steps]:=rfl
theorem TGenScope.wc (o:Bool) (x:TGenScope) (l:List D):(TGenScope.e o x).withCells l=.agg l:=rfl
theorem TGenScope.frz (o:Bool) (x:TGenScope):(TGenScope.e o x).freeze=TGenScope.e false x:=by simp only [TGenScope.e,TGenScope.c,vx,TBinding.frzL,TCoexpr.frzL,TObject.frzL]
theorem TGenScope.frzL (o:Bool) (xs:List TGenScope):zad (xs.map (TGenScope.e o))=xs.map (TGenScope.e false):=zaV (TGenScope.frz o) xs
theorem TGenScope.frzA (o:Bool) (xs:List TGenScope) (r:List D):zad (xs.map (TGenScope.e o)++r)=xs.map (TGenScope.e false)++zad r:=zbH (TGenScope.frz o) xs r
theorem TGenScope.nos (x:TGenScope):(TGenScope.e true x).noS=true:=by simp only [TGenScope.e,TGenScope.c,vx,TBinding.nosL,TCoexpr.nosL,TObject.nosL]
theorem TGenScope.nosL (xs:List TGenScope):noSL (xs.map (TGenScope.e true))=true:=zcr TGenScope.nos xs
def TGenScope.n (x:TGenScope):Nat:=(x.Vars.length + lsum TBinding.n x.Vars) + THeap.n x.Heap + (x.Cos.length + lsum TCoexpr.n x.Cos)
def TGenScope.mk_ (x:TGenScope) (k:Int):TGenScope:={ Vars:=mkL TBinding.mk_ TBinding.nx x.Vars (k),Heap:={ Next:=zab TBinding.nx x.Vars (k),Objects:=mkL TObject.mk_ TObject.nx x.Heap.Objects (zab TBinding.nx x.Vars (k) + 1) },Cos:=mkL TCoexpr.mk_ TCoexpr.nx x.Cos (zab TObject.nx x.Heap.Objects (zab TBinding.nx x.Vars (k) + 1)),Steps:=zab TCoexpr.nx x.Cos (zab TObject.nx x.Heap.Objects (zab TBinding.nx x.Vars (k) + 1)) }
def TGenScope.nx (x:TGenScope) (k:Int):Int:=zab TCoexpr.nx x.Cos (zab TObject.nx x.Heap.Objects (zab TBinding.nx x.Vars (k) + 1)) + 1
def TGenScope.m (x:TGenScope):Nat:=lsum TBinding.m x.Vars + 1 + lsum TObject.m x.Heap.Objects + lsum TCoexpr.m x.Cos + 1
theorem TGenScope.nxm (x:TGenScope) (k:Int):TGenScope.nx x k=k + TGenScope.m x:=by
 simp only [TGenScope.nx,TGenScope.m,zao TBinding.nxm,zao TCoexpr.nxm,zao TObject.nxm] <;> omega
theorem TGenScope.mn (x:TGenScope):TGenScope.m x<=16 + 16 * TGenScope.n x:=by
 have h0:=zbr TBinding.mn x.Vars
 have h1:=zbr TObject.mn x.Heap.Objects
 have h2:=zbr TCoexpr.mn x.Cos
 simp only [TGenScope.m,TGenScope.n,THeap.n];omega
structure TcursorForm where
 phases:List Int
 counts:Int
 vals:Int
 kids:List TGen
 deriving Inhabited
def TcursorForm.c (o:Bool) (x:TcursorForm):List D:=[D.sl o 1 (List.map (D.int .i64) x.phases),D.int .i64 x.counts,D.int .i64 x.vals,D.sl o 8 (List.map (TGen.e o) x.kids)]
def TcursorForm.e (o:Bool) (x:TcursorForm):D:=.agg (x.c o)
theorem TcursorForm.cells (o:Bool) (x:TcursorForm):(TcursorForm.e o x).cells=[D.sl o 1 (List.map (D.int .i64) x.phases),D.int .i64 x.counts,D.int .i64 x.vals,D.sl o 8 (List.map (TGen.e o) x.kids)]:=rfl
theorem TcursorForm.wc (o:Bool) (x:TcursorForm) (l:List D):(TcursorForm.e o x).withCells l=.agg l:=rfl
theorem TcursorForm.frz (o:Bool) (x:TcursorForm):(TcursorForm.e o x).freeze=TcursorForm.e false x:=by simp only [TcursorForm.e,TcursorForm.c,vx,TGen.frzL,zrb]
theorem TcursorForm.frzL (o:Bool) (xs:List TcursorForm):zad (xs.map (TcursorForm.e o))=xs.map (TcursorForm.e false):=zaV (TcursorForm.frz o) xs
theorem TcursorForm.frzA (o:Bool) (xs:List TcursorForm) (r:List D):zad (xs.map (TcursorForm.e o)++r)=xs.map (TcursorForm.e false)++zad r:=zbH (TcursorForm.frz o) xs r
theorem TcursorForm.nos (x:TcursorForm):(TcursorForm.e true x).noS=true:=by simp only [TcursorForm.e,TcursorForm.c,vx,TGen.nosL,zrc]
theorem TcursorForm.nosL (xs:List TcursorForm):noSL (xs.map (TcursorForm.e true))=true:=zcr TcursorForm.nos xs
abbrev tyd :=
 And.intro @TValue.e.eq_1 <|
 And.intro @TValue.c.eq_1 <|
 And.intro @TObject.e.eq_1 <|
 And.intro @TObject.c.eq_1 <|
 And.intro @THeap.e.eq_1 <|
 And.intro @THeap.c.eq_1 <|
 And.intro @TBinding.e.eq_1 <|
 And.intro @TBinding.c.eq_1 <|
 And.intro @TCoexpr.e.eq_1 <|
 And.intro @TCoexpr.c.eq_1 <|
 And.intro @TGenScope.e.eq_1 <|
 And.intro @TGenScope.c.eq_1 <|
 And.intro @TcursorForm.e.eq_1 <|
 And.intro @TcursorForm.c.eq_1 <|
 And.intro @TGen.c.eq_1 @TCursor.c.eq_1
abbrev eqs:=And.intro @List.map_cons.{0,0} <| And.intro @List.map_nil.{0,0} <| And.intro TGen.e_eq TCursor.e_eq
abbrev ty :=
 And.intro TValue.cells <|
 And.intro TValue.wc <|
 And.intro TValue.frz <|
 And.intro TValue.frzL <|
 And.intro TValue.frzA <|
 And.intro TValue.nos <|
 And.intro TValue.nosL <|
 And.intro TObject.cells <|
 And.intro TObject.wc <|
 And.intro TObject.frz <|
 And.intro TObject.frzL <|
 And.intro TObject.frzA <|
 And.intro TObject.nos <|
 And.intro TObject.nosL <|
 And.intro THeap.cells <|
 And.intro THeap.wc <|
 And.intro THeap.frz <|
 And.intro THeap.frzL <|
 And.intro THeap.frzA <|
 And.intro THeap.nos <|
 And.intro THeap.nosL <|
 And.intro TBinding.cells <|
 And.intro TBinding.wc <|
 And.intro TBinding.frz <|
 And.intro TBinding.frzL <|
 And.intro TBinding.frzA <|
 And.intro TBinding.nos <|
 And.intro TBinding.nosL <|
 And.intro TGen.cells <|
 And.intro TGen.wc <|
 And.intro TGen.frz <|
 And.intro TGen.frzL <|
 And.intro TGen.frzA <|
 And.intro TGen.nos <|
 And.intro TGen.nosL <|
 And.intro TCursor.cells <|
 And.intro TCursor.wc <|
 And.intro TCursor.frz <|
 And.intro TCursor.frzL <|
 And.intro TCursor.frzA <|
 And.intro TCursor.nos <|
 And.intro TCursor.nosL <|
 And.intro TCoexpr.cells <|
 And.intro TCoexpr.wc <|
 And.intro TCoexpr.frz <|
 And.intro TCoexpr.frzL <|
 And.intro TCoexpr.frzA <|
 And.intro TCoexpr.nos <|
 And.intro TCoexpr.nosL <|
 And.intro TGenScope.cells <|
 And.intro TGenScope.wc <|
 And.intro TGenScope.frz <|
 And.intro TGenScope.frzL <|
 And.intro TGenScope.frzA <|
 And.intro TGenScope.nos <|
 And.intro TGenScope.nosL <|
 And.intro TcursorForm.cells <|
 And.intro TcursorForm.wc <|
 And.intro TcursorForm.frz <|
 And.intro TcursorForm.frzL <|
 And.intro TcursorForm.frzA <|
 And.intro TcursorForm.nos <|
 And.intro TcursorForm.nosL <|
 And.intro D.strFrzA D.intFrzA
end Go.Vx

