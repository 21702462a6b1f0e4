/-
  The program's plain types: structures, the cells they lie in, their sizes and their marks.
-/
import Derived.Test.YtapepbhnleekbaaGreatDoorVxD
set_option linter.unusedVariables false
set_option linter.unusedSimpArgs false
namespace Go.Vx
structure TValue where
 Kind:Int
 Num:Int
 Text:ByteArray
 Ref:Int
 deriving DecidableEq,Inhabited
def TValue.c (o:Bool) (x:TValue):List D:=[D.int .i64 x.Kind,D.int .i64 x.Num,D.str x.Text,D.int .i64 x.Ref]
def TValue.e (o:Bool) (x:TValue):D:=.agg (x.c o)
theorem TValue.cells (o:Bool) (x:TValue):(TValue.e o x).cells=[D.int .i64 x.Kind,D.int .i64 x.Num,D.str x.Text,D.int .i64 x.Ref]:=rfl
theorem TValue.wc (o:Bool) (x:TValue) (l:List D):(TValue.e o x).withCells l=.agg l:=rfl
theorem TValue.frz (o:Bool) (x:TValue):(TValue.e o x).freeze=TValue.e false x:=by simp only [TValue.e,TValue.c,vx]
theorem TValue.frzL (o:Bool) (xs:List TValue):zae (xs.map (TValue.e o))=xs.map (TValue.e false):=zaA (TValue.frz o) xs
theorem TValue.frzA (o:Bool) (xs:List TValue) (r:List D):zae (xs.map (TValue.e o)++r)=xs.map (TValue.e false)++zae r:=zaG (TValue.frz o) xs r
theorem TValue.nos (o:Bool) (x:TValue):(TValue.e o x).noS=true:=by simp only [TValue.e,TValue.c,vx]
theorem TValue.nosL (o:Bool) (xs:List TValue):noSL (xs.map (TValue.e o))=true:=zaZ (TValue.nos o) xs
def TValue.n (x:TValue):Nat:=x.Text.size
def TValue.mk_ (x:TValue) (k:Int):TValue:={ Kind:=k,Num:=k + 1,Text:=mt (k + 1 + 1),Ref:=k + 1 + 1 + 1 }
def TValue.nx (x:TValue) (k:Int):Int:=k + 1 + 1 + 1 + 1
def TValue.m (x:TValue):Nat:=1 + 1 + 1 + 1
theorem TValue.nxm (x:TValue) (k:Int):TValue.nx x k=k + TValue.m x:=by
 simp only [TValue.nx,TValue.m] <;> omega
theorem TValue.mn (x:TValue):TValue.m x<=16 + 16 * TValue.n x:=by
 simp only [TValue.m,TValue.n];omega
structure TObject where
 Id:Int
 Kind:Int
 Name:ByteArray
 Low:Int
 Keys:List TValue
 Vals:List TValue
 Default:TValue
 deriving DecidableEq,Inhabited
def TObject.c (o:Bool) (x:TObject):List D:=[D.int .i64 x.Id,D.int .i64 x.Kind,D.str x.Name,D.int .i64 x.Low,D.sl o 4 (List.map (TValue.e false) x.Keys),D.sl o 4 (List.map (TValue.e false) x.Vals),D.int .i64 x.Default.Kind,D.int .i64 x.Default.Num,D.str x.Default.Text,D.int .i64 x.Default.Ref]
def TObject.e (o:Bool) (x:TObject):D:=.agg (x.c o)
theorem TObject.cells (o:Bool) (x:TObject):(TObject.e o x).cells=[D.int .i64 x.Id,D.int .i64 x.Kind,D.str x.Name,D.int .i64 x.Low,D.sl o 4 (List.map (TValue.e false) x.Keys),D.sl o 4 (List.map (TValue.e false) x.Vals),D.int .i64 x.Default.Kind,D.int .i64 x.Default.Num,D.str x.Default.Text,D.int .i64 x.Default.Ref]:=rfl
theorem TObject.wc (o:Bool) (x:TObject) (l:List D):(TObject.e o x).withCells l=.agg l:=rfl
theorem TObject.frz (o:Bool) (x:TObject):(TObject.e o x).freeze=TObject.e false x:=by simp only [TObject.e,TObject.c,vx,TValue.frzL]
theorem TObject.frzL (o:Bool) (xs:List TObject):zae (xs.map (TObject.e o))=xs.map (TObject.e false):=zaA (TObject.frz o) xs
theorem TObject.frzA (o:Bool) (xs:List TObject) (r:List D):zae (xs.map (TObject.e o)++r)=xs.map (TObject.e false)++zae r:=zaG (TObject.frz o) xs r
theorem TObject.nos (x:TObject):(TObject.e true x).noS=true:=by simp only [TObject.e,TObject.c,vx,TValue.nosL]
theorem TObject.nosL (xs:List TObject):noSL (xs.map (TObject.e true))=true:=zaZ TObject.nos xs
def TObject.n (x:TObject):Nat:=x.Name.size + (x.Keys.length + lsum TValue.n x.Keys) + (x.Vals.length + lsum TValue.n x.Vals) + TValue.n x.Default
def TObject.mk_ (x:TObject) (k:Int):TObject:={ Id:=k,Kind:=k + 1,Name:=mt (k + 1 + 1),Low:=k + 1 + 1 + 1,Keys:=mkL TValue.mk_ TValue.nx x.Keys (k + 1 + 1 + 1 + 1),Vals:=mkL TValue.mk_ TValue.nx x.Vals (zaa TValue.nx x.Keys (k + 1 + 1 + 1 + 1)),Default:={ Kind:=zaa TValue.nx x.Vals (zaa TValue.nx x.Keys (k + 1 + 1 + 1 + 1)),Num:=zaa TValue.nx x.Vals (zaa TValue.nx x.Keys (k + 1 + 1 + 1 + 1)) + 1,Text:=mt (zaa TValue.nx x.Vals (zaa TValue.nx x.Keys (k + 1 + 1 + 1 + 1)) + 1 + 1),Ref:=zaa TValue.nx x.Vals (zaa TValue.nx x.Keys (k + 1 + 1 + 1 + 1)) + 1 + 1 + 1 } }
def TObject.nx (x:TObject) (k:Int):Int:=zaa TValue.nx x.Vals (zaa TValue.nx x.Keys (k + 1 + 1 + 1 + 1)) + 1 + 1 + 1 + 1
def TObject.m (x:TObject):Nat:=1 + 1 + 1 + 1 + lsum TValue.m x.Keys + lsum TValue.m x.Vals + 1 + 1 + 1 + 1
theorem TObject.nxm (x:TObject) (k:Int):TObject.nx x k=k + TObject.m x:=by
 simp only [TObject.nx,TObject.m,zas TValue.nxm] <;> omega
theorem TObject.mn (x:TObject):TObject.m x<=16 + 16 * TObject.n x:=by
 have h0:=zbn TValue.mn x.Keys
 have h1:=zbn TValue.mn x.Vals
 simp only [TObject.m,TObject.n,TValue.n];omega
structure THeap where
 Next:Int
 Objects:List TObject
 deriving DecidableEq,Inhabited
def THeap.c (o:Bool) (x:THeap):List D:=[D.int .i64 x.Next,D.sl o 10 (List.map (TObject.e o) x.Objects)]
def THeap.e (o:Bool) (x:THeap):D:=.agg (x.c o)
theorem THeap.cells (o:Bool) (x:THeap):(THeap.e o x).cells=[D.int .i64 x.Next,D.sl o 10 (List.map (TObject.e o) x.Objects)]:=rfl
theorem THeap.wc (o:Bool) (x:THeap) (l:List D):(THeap.e o x).withCells l=.agg l:=rfl
theorem THeap.frz (o:Bool) (x:THeap):(THeap.e o x).freeze=THeap.e false x:=by simp only [THeap.e,THeap.c,vx,TObject.frzL]
theorem THeap.frzL (o:Bool) (xs:List THeap):zae (xs.map (THeap.e o))=xs.map (THeap.e false):=zaA (THeap.frz o) xs
theorem THeap.frzA (o:Bool) (xs:List THeap) (r:List D):zae (xs.map (THeap.e o)++r)=xs.map (THeap.e false)++zae r:=zaG (THeap.frz o) xs r
theorem THeap.nos (x:THeap):(THeap.e true x).noS=true:=by simp only [THeap.e,THeap.c,vx,TObject.nosL]
theorem THeap.nosL (xs:List THeap):noSL (xs.map (THeap.e true))=true:=zaZ THeap.nos xs
def THeap.n (x:THeap):Nat:=(x.Objects.length + lsum TObject.n x.Objects)
def THeap.mk_ (x:THeap) (k:Int):THeap:={ Next:=k,Objects:=mkL TObject.mk_ TObject.nx x.Objects (k + 1) }
def THeap.nx (x:THeap) (k:Int):Int:=zaa TObject.nx x.Objects (k + 1)
def THeap.m (x:THeap):Nat:=1 + lsum TObject.m x.Objects
theorem THeap.nxm (x:THeap) (k:Int):THeap.nx x k=k + THeap.m x:=by
 simp only [THeap.nx,THeap.m,zas TObject.nxm] <;> omega
theorem THeap.mn (x:THeap):THeap.m x<=16 + 16 * THeap.n x:=by
 have h0:=zbn TObject.mn x.Objects
 simp only [THeap.m,THeap.n];omega
structure TBinding where
 Name:ByteArray
 Value:TValue
 deriving DecidableEq,Inhabited
def TBinding.c (o:Bool) (x:TBinding):List D:=[D.str x.Name,D.int .i64 x.Value.Kind,D.int .i64 x.Value.Num,D.str x.Value.Text,D.int .i64 x.Value.Ref]
def TBinding.e (o:Bool) (x:TBinding):D:=.agg (x.c o)
theorem TBinding.cells (o:Bool) (x:TBinding):(TBinding.e o x).cells=[D.str x.Name,D.int .i64 x.Value.Kind,D.int .i64 x.Value.Num,D.str x.Value.Text,D.int .i64 x.Value.Ref]:=rfl
theorem TBinding.wc (o:Bool) (x:TBinding) (l:List D):(TBinding.e o x).withCells l=.agg l:=rfl
theorem TBinding.frz (o:Bool) (x:TBinding):(TBinding.e o x).freeze=TBinding.e false x:=by simp only [TBinding.e,TBinding.c,vx]
theorem TBinding.frzL (o:Bool) (xs:List TBinding):zae (xs.map (TBinding.e o))=xs.map (TBinding.e false):=zaA (TBinding.frz o) xs
theorem TBinding.frzA (o:Bool) (xs:List TBinding) (r:List D):zae (xs.map (TBinding.e o)++r)=xs.map (TBinding.e false)++zae r:=zaG (TBinding.frz o) xs r
theorem TBinding.nos (o:Bool) (x:TBinding):(TBinding.e o x).noS=true:=by simp only [TBinding.e,TBinding.c,vx]
theorem TBinding.nosL (o:Bool) (xs:List TBinding):noSL (xs.map (TBinding.e o))=true:=zaZ (TBinding.nos o) xs
def TBinding.n (x:TBinding):Nat:=x.Name.size + TValue.n x.Value
def TBinding.mk_ (x:TBinding) (k:Int):TBinding:={ Name:=mt (k),Value:={ Kind:=k + 1,Num:=k + 1 + 1,Text:=mt (k + 1 + 1 + 1),Ref:=k + 1 + 1 + 1 + 1 } }
def TBinding.nx (x:TBinding) (k:Int):Int:=k + 1 + 1 + 1 + 1 + 1
def TBinding.m (x:TBinding):Nat:=1 + 1 + 1 + 1 + 1
theorem TBinding.nxm (x:TBinding) (k:Int):TBinding.nx x k=k + TBinding.m x:=by
 simp only [TBinding.nx,TBinding.m] <;> omega
theorem TBinding.mn (x:TBinding):TBinding.m x<=16 + 16 * TBinding.n x:=by
 simp only [TBinding.m,TBinding.n,TValue.n];omega
structure TFunction where
 Name:ByteArray
 Params:List ByteArray
 Locals:List ByteArray
 Label:ByteArray
 deriving DecidableEq,Inhabited
def TFunction.c (o:Bool) (x:TFunction):List D:=[D.str x.Name,D.sl o 1 (List.map D.str x.Params),D.sl o 1 (List.map D.str x.Locals),D.str x.Label]
def TFunction.e (o:Bool) (x:TFunction):D:=.agg (x.c o)
theorem TFunction.cells (o:Bool) (x:TFunction):(TFunction.e o x).cells=[D.str x.Name,D.sl o 1 (List.map D.str x.Params),D.sl o 1 (List.map D.str x.Locals),D.str x.Label]:=rfl
theorem TFunction.wc (o:Bool) (x:TFunction) (l:List D):(TFunction.e o x).withCells l=.agg l:=rfl
theorem TFunction.frz (o:Bool) (x:TFunction):(TFunction.e o x).freeze=TFunction.e false x:=by simp only [TFunction.e,TFunction.c,vx,zhp]
theorem TFunction.frzL (o:Bool) (xs:List TFunction):zae (xs.map (TFunction.e o))=xs.map (TFunction.e false):=zaA (TFunction.frz o) xs
theorem TFunction.frzA (o:Bool) (xs:List TFunction) (r:List D):zae (xs.map (TFunction.e o)++r)=xs.map (TFunction.e false)++zae r:=zaG (TFunction.frz o) xs r
theorem TFunction.nos (x:TFunction):(TFunction.e true x).noS=true:=by simp only [TFunction.e,TFunction.c,vx,zhq]
theorem TFunction.nosL (xs:List TFunction):noSL (xs.map (TFunction.e true))=true:=zaZ TFunction.nos xs
def TFunction.n (x:TFunction):Nat:=x.Name.size + (x.Params.length + lsum ByteArray.size x.Params) + (x.Locals.length + lsum ByteArray.size x.Locals) + x.Label.size
def TFunction.mk_ (x:TFunction) (k:Int):TFunction:={ Name:=mt (k),Params:=mkL (fun _ k=>mt k) (fun _ k=>k + 1) x.Params (k + 1),Locals:=mkL (fun _ k=>mt k) (fun _ k=>k + 1) x.Locals (zaa (fun _ k=>k + 1) x.Params (k + 1)),Label:=mt (zaa (fun _ k=>k + 1) x.Locals (zaa (fun _ k=>k + 1) x.Params (k + 1))) }
def TFunction.nx (x:TFunction) (k:Int):Int:=zaa (fun _ k=>k + 1) x.Locals (zaa (fun _ k=>k + 1) x.Params (k + 1)) + 1
def TFunction.m (x:TFunction):Nat:=1 + lsum (fun _=>1) x.Params + lsum (fun _=>1) x.Locals + 1
theorem TFunction.nxm (x:TFunction) (k:Int):TFunction.nx x k=k + TFunction.m x:=by
 simp only [TFunction.nx,TFunction.m,zat] <;> omega
theorem TFunction.mn (x:TFunction):TFunction.m x<=16 + 16 * TFunction.n x:=by
 have h0:=zcR ByteArray.size x.Params
 have h1:=zcR ByteArray.size x.Locals
 simp only [TFunction.m,TFunction.n];omega
structure TRecordType where
 Name:ByteArray
 Fields:List ByteArray
 deriving DecidableEq,Inhabited
def TRecordType.c (o:Bool) (x:TRecordType):List D:=[D.str x.Name,D.sl o 1 (List.map D.str x.Fields)]
def TRecordType.e (o:Bool) (x:TRecordType):D:=.agg (x.c o)
theorem TRecordType.cells (o:Bool) (x:TRecordType):(TRecordType.e o x).cells=[D.str x.Name,D.sl o 1 (List.map D.str x.Fields)]:=rfl
theorem TRecordType.wc (o:Bool) (x:TRecordType) (l:List D):(TRecordType.e o x).withCells l=.agg l:=rfl
theorem TRecordType.frz (o:Bool) (x:TRecordType):(TRecordType.e o x).freeze=TRecordType.e false x:=by simp only [TRecordType.e,TRecordType.c,vx,zhp]
theorem TRecordType.frzL (o:Bool) (xs:List TRecordType):zae (xs.map (TRecordType.e o))=xs.map (TRecordType.e false):=zaA (TRecordType.frz o) xs
theorem TRecordType.frzA (o:Bool) (xs:List TRecordType) (r:List D):zae (xs.map (TRecordType.e o)++r)=xs.map (TRecordType.e false)++zae r:=zaG (TRecordType.frz o) xs r
theorem TRecordType.nos (x:TRecordType):(TRecordType.e true x).noS=true:=by simp only [TRecordType.e,TRecordType.c,vx,zhq]
theorem TRecordType.nosL (xs:List TRecordType):noSL (xs.map (TRecordType.e true))=true:=zaZ TRecordType.nos xs
def TRecordType.n (x:TRecordType):Nat:=x.Name.size + (x.Fields.length + lsum ByteArray.size x.Fields)
def TRecordType.mk_ (x:TRecordType) (k:Int):TRecordType:={ Name:=mt (k),Fields:=mkL (fun _ k=>mt k) (fun _ k=>k + 1) x.Fields (k + 1) }
def TRecordType.nx (x:TRecordType) (k:Int):Int:=zaa (fun _ k=>k + 1) x.Fields (k + 1)
def TRecordType.m (x:TRecordType):Nat:=1 + lsum (fun _=>1) x.Fields
theorem TRecordType.nxm (x:TRecordType) (k:Int):TRecordType.nx x k=k + TRecordType.m x:=by
 simp only [TRecordType.nx,TRecordType.m,zat] <;> omega
theorem TRecordType.mn (x:TRecordType):TRecordType.m x<=16 + 16 * TRecordType.n x:=by
 have h0:=zcR ByteArray.size x.Fields
 simp only [TRecordType.m,TRecordType.n];omega
structure TScope where
 Vars:List TBinding
 Functions:List TFunction
 Types:List TRecordType
 deriving DecidableEq,Inhabited
def TScope.c (o:Bool) (x:TScope):List D:=[D.sl o 5 (List.map (TBinding.e false) x.Vars),D.sl o 4 (List.map (TFunction.e o) x.Functions),D.sl o 2 (List.map (TRecordType.e o) x.Types)]
def TScope.e (o:Bool) (x:TScope):D:=.agg (x.c o)
theorem TScope.cells (o:Bool) (x:TScope):(TScope.e o x).cells=[D.sl o 5 (List.map (TBinding.e false) x.Vars),D.sl o 4 (List.map (TFunction.e o) x.Functions),D.sl o 2 (List.map (TRecordType.e o) x.Types)]:=rfl
theorem TScope.wc (o:Bool) (x:TScope) (l:List D):(TScope.e o x).withCells l=.agg l:=rfl
theorem TScope.frz (o:Bool) (x:TScope):(TScope.e o x).freeze=TScope.e false x:=by simp only [TScope.e,TScope.c,vx,TBinding.frzL,TFunction.frzL,TRecordType.frzL]
theorem TScope.frzL (o:Bool) (xs:List TScope):zae (xs.map (TScope.e o))=xs.map (TScope.e false):=zaA (TScope.frz o) xs
theorem TScope.frzA (o:Bool) (xs:List TScope) (r:List D):zae (xs.map (TScope.e o)++r)=xs.map (TScope.e false)++zae r:=zaG (TScope.frz o) xs r
theorem TScope.nos (x:TScope):(TScope.e true x).noS=true:=by simp only [TScope.e,TScope.c,vx,TBinding.nosL,TFunction.nosL,TRecordType.nosL]
theorem TScope.nosL (xs:List TScope):noSL (xs.map (TScope.e true))=true:=zaZ TScope.nos xs
def TScope.n (x:TScope):Nat:=(x.Vars.length + lsum TBinding.n x.Vars) + (x.Functions.length + lsum TFunction.n x.Functions) + (x.Types.length + lsum TRecordType.n x.Types)
def TScope.mk_ (x:TScope) (k:Int):TScope:={ Vars:=mkL TBinding.mk_ TBinding.nx x.Vars (k),Functions:=mkL TFunction.mk_ TFunction.nx x.Functions (zaa TBinding.nx x.Vars (k)),Types:=mkL TRecordType.mk_ TRecordType.nx x.Types (zaa TFunction.nx x.Functions (zaa TBinding.nx x.Vars (k))) }
def TScope.nx (x:TScope) (k:Int):Int:=zaa TRecordType.nx x.Types (zaa TFunction.nx x.Functions (zaa TBinding.nx x.Vars (k)))
def TScope.m (x:TScope):Nat:=lsum TBinding.m x.Vars + lsum TFunction.m x.Functions + lsum TRecordType.m x.Types
theorem TScope.nxm (x:TScope) (k:Int):TScope.nx x k=k + TScope.m x:=by
 simp only [TScope.nx,TScope.m,zas TBinding.nxm,zas TFunction.nxm,zas TRecordType.nxm] <;> omega
theorem TScope.mn (x:TScope):TScope.m x<=16 + 16 * TScope.n x:=by
 have h0:=zbn TBinding.mn x.Vars
 have h1:=zbn TFunction.mn x.Functions
 have h2:=zbn TRecordType.mn x.Types
 simp only [TScope.m,TScope.n];omega
structure TFile where
 Name:ByteArray
 Lines:List ByteArray
 Mode:Int
 At:Int
 deriving DecidableEq,Inhabited
def TFile.c (o:Bool) (x:TFile):List D:=[D.str x.Name,D.sl o 1 (List.map D.str x.Lines),D.int .i64 x.Mode,D.int .i64 x.At]
def TFile.e (o:Bool) (x:TFile):D:=.agg (x.c o)
theorem TFile.cells (o:Bool) (x:TFile):(TFile.e o x).cells=[D.str x.Name,D.sl o 1 (List.map D.str x.Lines),D.int .i64 x.Mode,D.int .i64 x.At]:=rfl
theorem TFile.wc (o:Bool) (x:TFile) (l:List D):(TFile.e o x).withCells l=.agg l:=rfl
theorem TFile.frz (o:Bool) (x:TFile):(TFile.e o x).freeze=TFile.e false x:=by simp only [TFile.e,TFile.c,vx,zhp]
theorem TFile.frzL (o:Bool) (xs:List TFile):zae (xs.map (TFile.e o))=xs.map (TFile.e false):=zaA (TFile.frz o) xs
theorem TFile.frzA (o:Bool) (xs:List TFile) (r:List D):zae (xs.map (TFile.e o)++r)=xs.map (TFile.e false)++zae r:=zaG (TFile.frz o) xs r
theorem TFile.nos (x:TFile):(TFile.e true x).noS=true:=by simp only [TFile.e,TFile.c,vx,zhq]
theorem TFile.nosL (xs:List TFile):noSL (xs.map (TFile.e true))=true:=zaZ TFile.nos xs
def TFile.n (x:TFile):Nat:=x.Name.size + (x.Lines.length + lsum ByteArray.size x.Lines)
def TFile.mk_ (x:TFile) (k:Int):TFile:={ Name:=mt (k),Lines:=mkL (fun _ k=>mt k) (fun _ k=>k + 1) x.Lines (k + 1),Mode:=zaa (fun _ k=>k + 1) x.Lines (k + 1),At:=zaa (fun _ k=>k + 1) x.Lines (k + 1) + 1 }
def TFile.nx (x:TFile) (k:Int):Int:=zaa (fun _ k=>k + 1) x.Lines (k + 1) + 1 + 1
def TFile.m (x:TFile):Nat:=1 + lsum (fun _=>1) x.Lines + 1 + 1
theorem TFile.nxm (x:TFile) (k:Int):TFile.nx x k=k + TFile.m x:=by
 simp only [TFile.nx,TFile.m,zat] <;> omega
theorem TFile.mn (x:TFile):TFile.m x<=16 + 16 * TFile.n x:=by
 have h0:=zcR ByteArray.size x.Lines
 simp only [TFile.m,TFile.n];omega
structure TConsole where
 Input:List ByteArray
 At:Int
 Output:List ByteArray
 Files:List TFile
 Trace:List ByteArray
 deriving DecidableEq,Inhabited
def TConsole.c (o:Bool) (x:TConsole):List D:=[D.sl o 1 (List.map D.str x.Input),D.int .i64 x.At,D.sl o 1 (List.map D.str x.Output),D.sl o 4 (List.map (TFile.e o) x.Files),D.sl o 1 (List.map D.str x.Trace)]
def TConsole.e (o:Bool) (x:TConsole):D:=.agg (x.c o)
theorem TConsole.cells (o:Bool) (x:TConsole):(TConsole.e o x).cells=[D.sl o 1 (List.map D.str x.Input),D.int .i64 x.At,D.sl o 1 (List.map D.str x.Output),D.sl o 4 (List.map (TFile.e o) x.Files),D.sl o 1 (List.map D.str x.Trace)]:=rfl
theorem TConsole.wc (o:Bool) (x:TConsole) (l:List D):(TConsole.e o x).withCells l=.agg l:=rfl
theorem TConsole.frz (o:Bool) (x:TConsole):(TConsole.e o x).freeze=TConsole.e false x:=by simp only [TConsole.e,TConsole.c,vx,TFile.frzL,zhp]
theorem TConsole.frzL (o:Bool) (xs:List TConsole):zae (xs.map (TConsole.e o))=xs.map (TConsole.e false):=zaA (TConsole.frz o) xs
theorem TConsole.frzA (o:Bool) (xs:List TConsole) (r:List D):zae (xs.map (TConsole.e o)++r)=xs.map (TConsole.e false)++zae r:=zaG (TConsole.frz o) xs r
theorem TConsole.nos (x:TConsole):(TConsole.e true x).noS=true:=by simp only [TConsole.e,TConsole.c,vx,TFile.nosL,zhq]
theorem TConsole.nosL (xs:List TConsole):noSL (xs.map (TConsole.e true))=true:=zaZ TConsole.nos xs
def TConsole.n (x:TConsole):Nat:=(x.Input.length + lsum ByteArray.size x.Input) + (x.Output.length + lsum ByteArray.size x.Output) + (x.Files.length + lsum TFile.n x.Files) + (x.Trace.length + lsum ByteArray.size x.Trace)
def TConsole.mk_ (x:TConsole) (k:Int):TConsole:={ Input:=mkL (fun _ k=>mt k) (fun _ k=>k + 1) x.Input (k),At:=zaa (fun _ k=>k + 1) x.Input (k),Output:=mkL (fun _ k=>mt k) (fun _ k=>k + 1) x.Output (zaa (fun _ k=>k + 1) x.Input (k) + 1),Files:=mkL TFile.mk_ TFile.nx x.Files (zaa (fun _ k=>k + 1) x.Output (zaa (fun _ k=>k + 1) x.Input (k) + 1)),Trace:=mkL (fun _ k=>mt k) (fun _ k=>k + 1) x.Trace (zaa TFile.nx x.Files (zaa (fun _ k=>k + 1) x.Output (zaa (fun _ k=>k + 1) x.Input (k) + 1))) }
def TConsole.nx (x:TConsole) (k:Int):Int:=zaa (fun _ k=>k + 1) x.Trace (zaa TFile.nx x.Files (zaa (fun _ k=>k + 1) x.Output (zaa (fun _ k=>k + 1) x.Input (k) + 1)))
def TConsole.m (x:TConsole):Nat:=lsum (fun _=>1) x.Input + 1 + lsum (fun _=>1) x.Output + lsum TFile.m x.Files + lsum (fun _=>1) x.Trace
theorem TConsole.nxm (x:TConsole) (k:Int):TConsole.nx x k=k + TConsole.m x:=by
 simp only [TConsole.nx,TConsole.m,zas TFile.nxm,zat] <;> omega
theorem TConsole.mn (x:TConsole):TConsole.m x<=16 + 16 * TConsole.n x:=by
 have h0:=zcR ByteArray.size x.Input
 have h1:=zcR ByteArray.size x.Output
 have h2:=zbn TFile.mn x.Files
 have h3:=zcR ByteArray.size x.Trace
 simp only [TConsole.m,TConsole.n];omega
structure TMemory where
 Heap:THeap
 Scope:TScope
 Console:TConsole
 deriving DecidableEq,Inhabited
def TMemory.c (o:Bool) (x:TMemory):List D:=[D.int .i64 x.Heap.Next,D.sl o 10 (List.map (TObject.e o) x.Heap.Objects),D.sl o 5 (List.map (TBinding.e false) x.Scope.Vars),D.sl o 4 (List.map (TFunction.e o) x.Scope.Functions),D.sl o 2 (List.map (TRecordType.e o) x.Scope.Types),D.sl o 1 (List.map D.str x.Console.Input),D.int .i64 x.Console.At,D.sl o 1 (List.map D.str x.Console.Output),D.sl o 4 (List.map (TFile.e o) x.Console.Files),D.sl o 1 (List.map D.str x.Console.Trace)]
def TMemory.e (o:Bool) (x:TMemory):D:=.agg (x.c o)
theorem TMemory.cells (o:Bool) (x:TMemory):(TMemory.e o x).cells=[D.int .i64 x.Heap.Next,D.sl o 10 (List.map (TObject.e o) x.Heap.Objects),D.sl o 5 (List.map (TBinding.e false) x.Scope.Vars),D.sl o 4 (List.map (TFunction.e o) x.Scope.Functions),D.sl o 2 (List.map (TRecordType.e o) x.Scope.Types),D.sl o 1 (List.map D.str x.Console.Input),D.int .i64 x.Console.At,D.sl o 1 (List.map D.str x.Console.Output),D.sl o 4 (List.map (TFile.e o) x.Console.Files),D.sl o 1 (List.map D.str x.Console.Trace)]:=rfl
theorem TMemory.wc (o:Bool) (x:TMemory) (l:List D):(TMemory.e o x).withCells l=.agg l:=rfl
theorem TMemory.frz (o:Bool) (x:TMemory):(TMemory.e o x).freeze=TMemory.e false x:=by simp only [TMemory.e,TMemory.c,vx,TBinding.frzL,TFile.frzL,TFunction.frzL,TObject.frzL,TRecordType.frzL,zhp]
theorem TMemory.frzL (o:Bool) (xs:List TMemory):zae (xs.map (TMemory.e o))=xs.map (TMemory.e false):=zaA (TMemory.frz o) xs
theorem TMemory.frzA (o:Bool) (xs:List TMemory) (r:List D):zae (xs.map (TMemory.e o)++r)=xs.map (TMemory.e false)++zae r:=zaG (TMemory.frz o) xs r
theorem TMemory.nos (x:TMemory):(TMemory.e true x).noS=true:=by simp only [TMemory.e,TMemory.c,vx,TBinding.nosL,TFile.nosL,TFunction.nosL,TObject.nosL,TRecordType.nosL,zhq]
theorem TMemory.nosL (xs:List TMemory):noSL (xs.map (TMemory.e true))=true:=zaZ TMemory.nos xs
def TMemory.n (x:TMemory):Nat:=THeap.n x.Heap + TScope.n x.Scope + TConsole.n x.Console
def TMemory.mk_ (x:TMemory) (k:Int):TMemory:={ Heap:={ Next:=k,Objects:=mkL TObject.mk_ TObject.nx x.Heap.Objects (k + 1) },Scope:={ Vars:=mkL TBinding.mk_ TBinding.nx x.Scope.Vars (zaa TObject.nx x.Heap.Objects (k + 1)),Functions:=mkL TFunction.mk_ TFunction.nx x.Scope.Functions (zaa TBinding.nx x.Scope.Vars (zaa TObject.nx x.Heap.Objects (k + 1))),Types:=mkL TRecordType.mk_ TRecordType.nx x.Scope.Types (zaa TFunction.nx x.Scope.Functions (zaa TBinding.nx x.Scope.Vars (zaa TObject.nx x.Heap.Objects (k + 1)))) },Console:={ Input:=mkL (fun _ k=>mt k) (fun _ k=>k + 1) x.Console.Input (zaa TRecordType.nx x.Scope.Types (zaa TFunction.nx x.Scope.Functions (zaa TBinding.nx x.Scope.Vars (zaa TObject.nx x.Heap.Objects (k + 1))))),At:=zaa (fun _ k=>k + 1) x.Console.Input (zaa TRecordType.nx x.Scope.Types (zaa TFunction.nx x.Scope.Functions (zaa TBinding.nx x.Scope.Vars (zaa TObject.nx x.Heap.Objects (k + 1))))),Output:=mkL (fun _ k=>mt k) (fun _ k=>k + 1) x.Console.Output (zaa (fun _ k=>k + 1) x.Console.Input (zaa TRecordType.nx x.Scope.Types (zaa TFunction.nx x.Scope.Functions (zaa TBinding.nx x.Scope.Vars (zaa TObject.nx x.Heap.Objects (k + 1))))) + 1),Files:=mkL TFile.mk_ TFile.nx x.Console.Files (zaa (fun _ k=>k + 1) x.Console.Output (zaa (fun _ k=>k + 1) x.Console.Input (zaa TRecordType.nx x.Scope.Types (zaa TFunction.nx x.Scope.Functions (zaa TBinding.nx x.Scope.Vars (zaa TObject.nx x.Heap.Objects (k + 1))))) + 1)),Trace:=mkL (fun _ k=>mt k) (fun _ k=>k + 1) x.Console.Trace (zaa TFile.nx x.Console.Files (zaa (fun _ k=>k + 1) x.Console.Output (zaa (fun _ k=>k + 1) x.Console.Input (zaa TRecordType.nx x.Scope.Types (zaa TFunction.nx x.Scope.Functions (zaa TBinding.nx x.Scope.Vars (zaa TObject.nx x.Heap.Objects (k + 1))))) + 1))) } }
def TMemory.nx (x:TMemory) (k:Int):Int:=zaa (fun _ k=>k + 1) x.Console.Trace (zaa TFile.nx x.Console.Files (zaa (fun _ k=>k + 1) x.Console.Output (zaa (fun _ k=>k + 1) x.Console.Input (zaa TRecordType.nx x.Scope.Types (zaa TFunction.nx x.Scope.Functions (zaa TBinding.nx x.Scope.Vars (zaa TObject.nx x.Heap.Objects (k + 1))))) + 1)))
def TMemory.m (x:TMemory):Nat:=1 + lsum TObject.m x.Heap.Objects + lsum TBinding.m x.Scope.Vars + lsum TFunction.m x.Scope.Functions + lsum TRecordType.m x.Scope.Types + lsum (fun _=>1) x.Console.Input + 1 + lsum (fun _=>1) x.Console.Output + lsum TFile.m x.Console.Files + lsum (fun _=>1) x.Console.Trace
theorem TMemory.nxm (x:TMemory) (k:Int):TMemory.nx x k=k + TMemory.m x:=by
 simp only [TMemory.nx,TMemory.m,zas TBinding.nxm,zas TFile.nxm,zas TFunction.nxm,zas TObject.nxm,zas TRecordType.nxm,zat] <;> omega
theorem TMemory.mn (x:TMemory):TMemory.m x<=16 + 16 * TMemory.n x:=by
 have h0:=zbn TObject.mn x.Heap.Objects
 have h1:=zbn TBinding.mn x.Scope.Vars
 have h2:=zbn TFunction.mn x.Scope.Functions
 have h3:=zbn TRecordType.mn x.Scope.Types
 have h4:=zcR ByteArray.size x.Console.Input
 have h5:=zcR ByteArray.size x.Console.Output
 have h6:=zbn TFile.mn x.Console.Files
 have h7:=zcR ByteArray.size x.Console.Trace
 simp only [TMemory.m,TMemory.n,THeap.n,TScope.n,TConsole.n];omega
structure TExpr where
 Kind:Int
 Num:Int
 Text:ByteArray
 Kids:List TExpr
 deriving Inhabited
mutual
def TExpr.e (o:Bool):TExpr->D
 | ⟨y0,y1,y2,y3⟩=>.agg [D.int .i64 y0,D.int .i64 y1,D.str y2,D.sl o 4 (TExpr.eL o y3)]
def TExpr.eL (o:Bool):List TExpr->List D
 | []=>[]
 | x::r=>TExpr.e o x::TExpr.eL o r
end
theorem TExpr.eL_map (o:Bool):∀ l:List TExpr,TExpr.eL o l=l.map (TExpr.e o)
 | []=>rfl
 | x::r=>by rw [TExpr.eL,TExpr.eL_map o r,List.map_cons]
def TExpr.c (o:Bool) (x:TExpr):List D:=[D.int .i64 x.Kind,D.int .i64 x.Num,D.str x.Text,D.sl o 4 (List.map (TExpr.e o) x.Kids)]
theorem TExpr.e_c (o:Bool) (x:TExpr):TExpr.e o x=.agg (TExpr.c o x):=by
 cases x;simp only [TExpr.e,TExpr.c,TExpr.eL_map]
theorem TExpr.e_eq (o:Bool) (x:TExpr):TExpr.e o x=D.agg [D.int .i64 x.Kind,D.int .i64 x.Num,D.str x.Text,D.sl o 4 (List.map (TExpr.e o) x.Kids)]:=TExpr.e_c o x
theorem TExpr.ind {P:TExpr->Prop} (h:∀ x:TExpr,(∀ y ∈ x.Kids,P y)->P x):∀ x,P x:=by
 have key:∀ (n:Nat) (x:TExpr),SizeOf.sizeOf x<=n->P x:=by
  intro n
  induction n with
  | zero=>intro x hx;cases x;simp at hx <;> omega
  | succ n ih =>
   intro x hx
   refine h x fun y hy=>ih y ?_
   have:=List.sizeOf_lt_of_mem hy
   cases x;simp at hx this ⊢ <;> omega
 exact fun x=>key _ x (Nat.le_refl _)
theorem TExpr.cells (o:Bool) (x:TExpr):(TExpr.e o x).cells=[D.int .i64 x.Kind,D.int .i64 x.Num,D.str x.Text,D.sl o 4 (List.map (TExpr.e o) x.Kids)]:=by rw [TExpr.e_c];rfl
theorem TExpr.wc (o:Bool) (x:TExpr) (l:List D):(TExpr.e o x).withCells l=.agg l:=by rw [TExpr.e_c];rfl
theorem TExpr.frzM {α:Type} {f g:α->D}:∀ {xs:List α},(∀ x ∈ xs,(f x).freeze=g x)->zae (xs.map f)=xs.map g
 | [],_=>rfl
 | x::r,h=>by simp only [List.map_cons,zae];rw [h x (List.mem_cons_self ..),TExpr.frzM fun y hy=>h y (List.mem_cons_of_mem _ hy)]
theorem TExpr.nosM {α:Type} {f:α->D}:∀ {xs:List α},(∀ x ∈ xs,(f x).noS=true)->noSL (xs.map f)=true
 | [],_=>rfl
 | x::r,h=>by simp only [List.map_cons,noSL];rw [h x (List.mem_cons_self ..),TExpr.nosM fun y hy=>h y (List.mem_cons_of_mem _ hy)];rfl
theorem TExpr.frz (o:Bool):∀ x:TExpr,(TExpr.e o x).freeze=TExpr.e false x:=by
 refine TExpr.ind fun x ih=>?_
 rw [TExpr.e_eq,TExpr.e_eq]
 simp only [vx,TExpr.frzM ih]
theorem TExpr.frzL (o:Bool) (xs:List TExpr):zae (xs.map (TExpr.e o))=xs.map (TExpr.e false):=zaA (TExpr.frz o) xs
theorem TExpr.frzA (o:Bool) (xs:List TExpr) (r:List D):zae (xs.map (TExpr.e o)++r)=xs.map (TExpr.e false)++zae r:=zaG (TExpr.frz o) xs r
theorem TExpr.nos:∀ x:TExpr,(TExpr.e true x).noS=true:=by
 refine TExpr.ind fun x ih=>?_
 rw [TExpr.e_eq]
 simp only [vx,TExpr.nosM ih]
theorem TExpr.nosL (xs:List TExpr):noSL (xs.map (TExpr.e true))=true:=zaZ TExpr.nos xs
structure TGoto where
 Always:ByteArray
 Success:ByteArray
 Failure:ByteArray
 deriving DecidableEq,Inhabited
def TGoto.c (o:Bool) (x:TGoto):List D:=[D.str x.Always,D.str x.Success,D.str x.Failure]
def TGoto.e (o:Bool) (x:TGoto):D:=.agg (x.c o)
theorem TGoto.cells (o:Bool) (x:TGoto):(TGoto.e o x).cells=[D.str x.Always,D.str x.Success,D.str x.Failure]:=rfl
theorem TGoto.wc (o:Bool) (x:TGoto) (l:List D):(TGoto.e o x).withCells l=.agg l:=rfl
theorem TGoto.frz (o:Bool) (x:TGoto):(TGoto.e o x).freeze=TGoto.e false x:=by simp only [TGoto.e,TGoto.c,vx]
theorem TGoto.frzL (o:Bool) (xs:List TGoto):zae (xs.map (TGoto.e o))=xs.map (TGoto.e false):=zaA (TGoto.frz o) xs
theorem TGoto.frzA (o:Bool) (xs:List TGoto) (r:List D):zae (xs.map (TGoto.e o)++r)=xs.map (TGoto.e false)++zae r:=zaG (TGoto.frz o) xs r
theorem TGoto.nos (o:Bool) (x:TGoto):(TGoto.e o x).noS=true:=by simp only [TGoto.e,TGoto.c,vx]
theorem TGoto.nosL (o:Bool) (xs:List TGoto):noSL (xs.map (TGoto.e o))=true:=zaZ (TGoto.nos o) xs
structure TStatement where
 Label:ByteArray
 HasSubject:Bool
 Subject:TExpr
 HasPattern:Bool
 Pattern:TExpr
 HasReplace:Bool
 Replace:TExpr
 Goto:TGoto
 deriving Inhabited
def TStatement.c (o:Bool) (x:TStatement):List D:=[D.str x.Label,D.bool x.HasSubject,D.int .i64 x.Subject.Kind,D.int .i64 x.Subject.Num,D.str x.Subject.Text,D.sl o 4 (List.map (TExpr.e o) x.Subject.Kids),D.bool x.HasPattern,D.int .i64 x.Pattern.Kind,D.int .i64 x.Pattern.Num,D.str x.Pattern.Text,D.sl o 4 (List.map (TExpr.e o) x.Pattern.Kids),D.bool x.HasReplace,D.int .i64 x.Replace.Kind,D.int .i64 x.Replace.Num,D.str x.Replace.Text,D.sl o 4 (List.map (TExpr.e o) x.Replace.Kids),D.str x.Goto.Always,D.str x.Goto.Success,D.str x.Goto.Failure]
def TStatement.e (o:Bool) (x:TStatement):D:=.agg (x.c o)
theorem TStatement.cells (o:Bool) (x:TStatement):(TStatement.e o x).cells=[D.str x.Label,D.bool x.HasSubject,D.int .i64 x.Subject.Kind,D.int .i64 x.Subject.Num,D.str x.Subject.Text,D.sl o 4 (List.map (TExpr.e o) x.Subject.Kids),D.bool x.HasPattern,D.int .i64 x.Pattern.Kind,D.int .i64 x.Pattern.Num,D.str x.Pattern.Text,D.sl o 4 (List.map (TExpr.e o) x.Pattern.Kids),D.bool x.HasReplace,D.int .i64 x.Replace.Kind,D.int .i64 x.Replace.Num,D.str x.Replace.Text,D.sl o 4 (List.map (TExpr.e o) x.Replace.Kids),D.str x.Goto.Always,D.str x.Goto.Success,D.str x.Goto.Failure]:=rfl
theorem TStatement.wc (o:Bool) (x:TStatement) (l:List D):(TStatement.e o x).withCells l=.agg l:=rfl
theorem TStatement.frz (o:Bool) (x:TStatement):(TStatement.e o x).freeze=TStatement.e false x:=by simp only [TStatement.e,TStatement.c,vx,TExpr.frzL]
theorem TStatement.frzL (o:Bool) (xs:List TStatement):zae (xs.map (TStatement.e o))=xs.map (TStatement.e false):=zaA (TStatement.frz o) xs
theorem TStatement.frzA (o:Bool) (xs:List TStatement) (r:List D):zae (xs.map (TStatement.e o)++r)=xs.map (TStatement.e false)++zae r:=zaG (TStatement.frz o) xs r
theorem TStatement.nos (x:TStatement):(TStatement.e true x).noS=true:=by simp only [TStatement.e,TStatement.c,vx,TExpr.nosL]
theorem TStatement.nosL (xs:List TStatement):noSL (xs.map (TStatement.e true))=true:=zaZ TStatement.nos xs
structure TProgram where
 Statements:List TStatement
 deriving Inhabited
def TProgram.c (o:Bool) (x:TProgram):List D:=[D.sl o 19 (List.map (TStatement.e o) x.Statements)]
def TProgram.e (o:Bool) (x:TProgram):D:=.agg (x.c o)
theorem TProgram.cells (o:Bool) (x:TProgram):(TProgram.e o x).cells=[D.sl o 19 (List.map (TStatement.e o) x.Statements)]:=rfl
theorem TProgram.wc (o:Bool) (x:TProgram) (l:List D):(TProgram.e o x).withCells l=.agg l:=rfl
theorem TProgram.frz (o:Bool) (x:TProgram):(TProgram.e o x).freeze=TProgram.e false x:=by simp only [TProgram.e,TProgram.c,vx,TStatement.frzL]
theorem TProgram.frzL (o:Bool) (xs:List TProgram):zae (xs.map (TProgram.e o))=xs.map (TProgram.e false):=zaA (TProgram.frz o) xs
theorem TProgram.frzA (o:Bool) (xs:List TProgram) (r:List D):zae (xs.map (TProgram.e o)++r)=xs.map (TProgram.e false)++zae r:=zaG (TProgram.frz o) xs r
theorem TProgram.nos (x:TProgram):(TProgram.e true x).noS=true:=by simp only [TProgram.e,TProgram.c,vx,TStatement.nosL]
theorem TProgram.nosL (xs:List TProgram):noSL (xs.map (TProgram.e true))=true:=zaZ TProgram.nos xs
structure Trunner where
 m_:TMemory
 program:TProgram
 hasCalls:Bool
 fuel:Int
 steps:Int
 level:Int
 at_:Int
 deriving Inhabited
def Trunner.c (o:Bool) (x:Trunner):List D:=[D.int .i64 x.m_.Heap.Next,D.sl o 10 (List.map (TObject.e o) x.m_.Heap.Objects),D.sl o 5 (List.map (TBinding.e false) x.m_.Scope.Vars),D.sl o 4 (List.map (TFunction.e o) x.m_.Scope.Functions),D.sl o 2 (List.map (TRecordType.e o) x.m_.Scope.Types),D.sl o 1 (List.map D.str x.m_.Console.Input),D.int .i64 x.m_.Console.At,D.sl o 1 (List.map D.str x.m_.Console.Output),D.sl o 4 (List.map (TFile.e o) x.m_.Console.Files),D.sl o 1 (List.map D.str x.m_.Console.Trace),D.sl o 19 (List.map (TStatement.e o) x.program.Statements),D.bool x.hasCalls,D.int .i64 x.fuel,D.int .i64 x.steps,D.int .i64 x.level,D.int .i64 x.at_]
def Trunner.e (o:Bool) (x:Trunner):D:=.agg (x.c o)
theorem Trunner.cells (o:Bool) (x:Trunner):(Trunner.e o x).cells=[D.int .i64 x.m_.Heap.Next,D.sl o 10 (List.map (TObject.e o) x.m_.Heap.Objects),D.sl o 5 (List.map (TBinding.e false) x.m_.Scope.Vars),D.sl o 4 (List.map (TFunction.e o) x.m_.Scope.Functions),D.sl o 2 (List.map (TRecordType.e o) x.m_.Scope.Types),D.sl o 1 (List.map D.str x.m_.Console.Input),D.int .i64 x.m_.Console.At,D.sl o 1 (List.map D.str x.m_.Console.Output),D.sl o 4 (List.map (TFile.e o) x.m_.Console.Files),D.sl o 1 (List.map D.str x.m_.Console.Trace),D.sl o 19 (List.map (TStatement.e o) x.program.Statements),D.bool x.hasCalls,D.int .i64 x.fuel,D.int .i64 x.steps,D.int .i64 x.level,D.int .i64 x.at_]:=rfl
theorem Trunner.wc (o:Bool) (x:Trunner) (l:List D):(Trunner.e o x).withCells l=.agg l:=rfl
theorem Trunner.frz (o:Bool) (x:Trunner):(Trunner.e o x).freeze=Trunner.e false x:=by simp only [Trunner.e,Trunner.c,vx,TBinding.frzL,TFile.frzL,TFunction.frzL,TObject.frzL,TRecordType.frzL,TStatement.frzL,zhp]
theorem Trunner.frzL (o:Bool) (xs:List Trunner):zae (xs.map (Trunner.e o))=xs.map (Trunner.e false):=zaA (Trunner.frz o) xs
theorem Trunner.frzA (o:Bool) (xs:List Trunner) (r:List D):zae (xs.map (Trunner.e o)++r)=xs.map (Trunner.e false)++zae r:=zaG (Trunner.frz o) xs r
theorem Trunner.nos (x:Trunner):(Trunner.e true x).noS=true:=by simp only [Trunner.e,Trunner.c,vx,TBinding.nosL,TFile.nosL,TFunction.nosL,TObject.nosL,TRecordType.nosL,TStatement.nosL,zhq]
theorem Trunner.nosL (xs:List Trunner):noSL (xs.map (Trunner.e true))=true:=zaZ Trunner.nos xs
abbrev tyd :=
 And.intro @TValue.e.eq_1 <|
 And.intro @TValue.c.eq_1 <|
 And.intro @TObject.e.eq_1 <|
 And.intro @TObject.c.eq_1 <|
 And.intro @THeap.e.eq_1 <|
 And.intro @THeap.c.eq_1 <|
 And.intro @TBinding.e.eq_1 <|
 And.intro @TBinding.c.eq_1 <|
 And.intro @TFunction.e.eq_1 <|
 And.intro @TFunction.c.eq_1 <|
 And.intro @TRecordType.e.eq_1 <|
 And.intro @TRecordType.c.eq_1 <|
 And.intro @TScope.e.eq_1 <|
 And.intro @TScope.c.eq_1 <|
 And.intro @TFile.e.eq_1 <|
 And.intro @TFile.c.eq_1 <|
 And.intro @TConsole.e.eq_1 <|
 And.intro @TConsole.c.eq_1 <|
 And.intro @TMemory.e.eq_1 <|
 And.intro @TMemory.c.eq_1 <|
 And.intro @TGoto.e.eq_1 <|
 And.intro @TGoto.c.eq_1 <|
 And.intro @TStatement.e.eq_1 <|
 And.intro @TStatement.c.eq_1 <|
 And.intro @TProgram.e.eq_1 <|
 And.intro @TProgram.c.eq_1 <|
 And.intro @Trunner.e.eq_1 <|
 And.intro @Trunner.c.eq_1 @TExpr.c.eq_1
abbrev eqs:=And.intro @List.map_cons.{0,0} <| And.intro @List.map_nil.{0,0} TExpr.e_eq
abbrev ty :=
 And.intro TValue.cells <|
 And.intro TValue.wc <|
 And.intro TValue.frz <|
 And.intro TValue.frzL <|
 And.intro TValue.frzA <|
 And.intro TValue.nos <|
 And.intro TValue.nosL <|
 And.intro TObject.cells <|
 And.intro TObject.wc <|
 And.intro TObject.frz <|
 And.intro TObject.frzL <|
 And.intro TObject.frzA <|
 And.intro TObject.nos <|
 And.intro TObject.nosL <|
 And.intro THeap.cells <|
 And.intro THeap.wc <|
 And.intro THeap.frz <|
 And.intro THeap.frzL <|
 And.intro THeap.frzA <|
 And.intro THeap.nos <|
 And.intro THeap.nosL <|
 And.intro TBinding.cells <|
 And.intro TBinding.wc <|
 And.intro TBinding.frz <|
 And.intro TBinding.frzL <|
 And.intro TBinding.frzA <|
 And.intro TBinding.nos <|
 And.intro TBinding.nosL <|
 And.intro TFunction.cells <|
 And.intro TFunction.wc <|
 And.intro TFunction.frz <|
 And.intro TFunction.frzL <|
 And.intro TFunction.frzA <|
 And.intro TFunction.nos <|
 And.intro TFunction.nosL <|
 And.intro TRecordType.cells <|
 And.intro TRecordType.wc <|
 And.intro TRecordType.frz <|
 And.intro TRecordType.frzL <|
 And.intro TRecordType.frzA <|
 And.intro TRecordType.nos <|
 And.intro TRecordType.nosL <|
 And.intro TScope.cells <|
 And.intro TScope.wc <|
 And.intro TScope.frz <|
 And.intro TScope.frzL <|
 And.intro TScope.frzA <|
 And.intro TScope.nos <|
 And.intro TScope.nosL <|
 And.intro TFile.cells <|
 And.intro TFile.wc <|
 And.intro TFile.frz <|
 And.intro TFile.frzL <|
 And.intro TFile.frzA <|
 And.intro TFile.nos <|
 And.intro TFile.nosL <|
 And.intro TConsole.cells <|
 And.intro TConsole.wc <|
 And.intro TConsole.frz <|
 And.intro TConsole.frzL <|
 And.intro TConsole.frzA <|
 And.intro TConsole.nos <|
 And.intro TConsole.nosL <|
 And.intro TMemory.cells <|
 And.intro TMemory.wc <|
 And.intro TMemory.frz <|
 And.intro TMemory.frzL <|
 And.intro TMemory.frzA <|
 And.intro TMemory.nos <|
 And.intro TMemory.nosL <|
 And.intro TExpr.cells <|
 And.intro TExpr.wc <|
 And.intro TExpr.frz <|
 And.intro TExpr.frzL <|
 And.intro TExpr.frzA <|
 And.intro TExpr.nos <|
 And.intro TExpr.nosL <|
 And.intro TGoto.cells <|
 And.intro TGoto.wc <|
 And.intro TGoto.frz <|
 And.intro TGoto.frzL <|
 And.intro TGoto.frzA <|
 And.intro TGoto.nos <|
 And.intro TGoto.nosL <|
 And.intro TStatement.cells <|
 And.intro TStatement.wc <|
 And.intro TStatement.frz <|
 And.intro TStatement.frzL <|
 And.intro TStatement.frzA <|
 And.intro TStatement.nos <|
 And.intro TStatement.nosL <|
 And.intro TProgram.cells <|
 And.intro TProgram.wc <|
 And.intro TProgram.frz <|
 And.intro TProgram.frzL <|
 And.intro TProgram.frzA <|
 And.intro TProgram.nos <|
 And.intro TProgram.nosL <|
 And.intro Trunner.cells <|
 And.intro Trunner.wc <|
 And.intro Trunner.frz <|
 And.intro Trunner.frzL <|
 And.intro Trunner.frzA <|
 And.intro Trunner.nos <|
 And.intro Trunner.nosL <|
 And.intro D.strFrzA D.intFrzA
end Go.Vx

