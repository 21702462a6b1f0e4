/-
  The program's plain types: structures, the cells they lie in, their sizes and their marks.
-/
import Derived.Test.YthppbplieikhkaaGreatVxC
set_option linter.unusedVariables false
set_option linter.unusedSimpArgs false
namespace Go.Vx
set_option linter.unusedVariables false
set_option linter.unusedSimpArgs false
structure TValue where
 Kind : Int
 Num : Int
 Text : ByteArray
 Ref : Int
 deriving DecidableEq, Inhabited
def TValue.c (o : Bool) (x : TValue) : List D := [D.int .i64 x.Kind, D.int .i64 x.Num, D.str x.Text, D.int .i64 x.Ref]
def TValue.e (o : Bool) (x : TValue) : D := .agg (x.c o)
theorem TValue.cells (o : Bool) (x : TValue) : (TValue.e o x).cells = [D.int .i64 x.Kind, D.int .i64 x.Num, D.str x.Text, D.int .i64 x.Ref] := rfl
theorem TValue.wc (o : Bool) (x : TValue) (l : List D) : (TValue.e o x).withCells l = .agg l := rfl
theorem TValue.fold (o : Bool) (x : TValue) : D.agg [D.int .i64 x.Kind, D.int .i64 x.Num, D.str x.Text, D.int .i64 x.Ref] = TValue.e o x := rfl
theorem TValue.frz (o : Bool) (x : TValue) : (TValue.e o x).freeze = TValue.e false x := by simp only [TValue.e, TValue.c, vx]
theorem TValue.frzL (o : Bool) (xs : List TValue) : zae (xs.map (TValue.e o)) = xs.map (TValue.e false) := zbi (TValue.frz o) xs
theorem TValue.frzA (o : Bool) (xs : List TValue) (r : List D) : zae (xs.map (TValue.e o) ++ r) = xs.map (TValue.e false) ++ zae r := zce (TValue.frz o) xs r
theorem TValue.nos (o : Bool) (x : TValue) : (TValue.e o x).noS = true := by simp only [TValue.e, TValue.c, vx]
theorem TValue.nosL (o : Bool) (xs : List TValue) : noSL (xs.map (TValue.e o)) = true := zcE (TValue.nos o) xs
def TValue.n (x : TValue) : Nat := x.Text.size
def TValue.mk_ (x : TValue) (k : Int) : TValue := { Kind := k, Num := k + 1, Text := mt (k + 1 + 1), Ref := k + 1 + 1 + 1 }
def TValue.nx (x : TValue) (k : Int) : Int := k + 1 + 1 + 1 + 1
def TValue.m (x : TValue) : Nat := 1 + 1 + 1 + 1
theorem TValue.nxm (x : TValue) (k : Int) : TValue.nx x k = k + TValue.m x := by
 simp only [TValue.nx, TValue.m]; omega
theorem TValue.mn (x : TValue) : TValue.m x ≤ 16 + 16 * TValue.n x := by
 simp only [TValue.m, TValue.n]; omega
structure TBinding where
 Name : ByteArray
 Value : TValue
 deriving DecidableEq, Inhabited
def TBinding.c (o : Bool) (x : TBinding) : List D := [D.str x.Name, D.int .i64 x.Value.Kind, D.int .i64 x.Value.Num, D.str x.Value.Text, D.int .i64 x.Value.Ref]
def TBinding.e (o : Bool) (x : TBinding) : D := .agg (x.c o)
theorem TBinding.cells (o : Bool) (x : TBinding) : (TBinding.e o x).cells = [D.str x.Name, D.int .i64 x.Value.Kind, D.int .i64 x.Value.Num, D.str x.Value.Text, D.int .i64 x.Value.Ref] := rfl
theorem TBinding.wc (o : Bool) (x : TBinding) (l : List D) : (TBinding.e o x).withCells l = .agg l := rfl
theorem TBinding.fold (o : Bool) (x : TBinding) : D.agg [D.str x.Name, D.int .i64 x.Value.Kind, D.int .i64 x.Value.Num, D.str x.Value.Text, D.int .i64 x.Value.Ref] = TBinding.e o x := rfl
theorem TBinding.frz (o : Bool) (x : TBinding) : (TBinding.e o x).freeze = TBinding.e false x := by simp only [TBinding.e, TBinding.c, vx]
theorem TBinding.frzL (o : Bool) (xs : List TBinding) : zae (xs.map (TBinding.e o)) = xs.map (TBinding.e false) := zbi (TBinding.frz o) xs
theorem TBinding.frzA (o : Bool) (xs : List TBinding) (r : List D) : zae (xs.map (TBinding.e o) ++ r) = xs.map (TBinding.e false) ++ zae r := zce (TBinding.frz o) xs r
theorem TBinding.nos (o : Bool) (x : TBinding) : (TBinding.e o x).noS = true := by simp only [TBinding.e, TBinding.c, vx]
theorem TBinding.nosL (o : Bool) (xs : List TBinding) : noSL (xs.map (TBinding.e o)) = true := zcE (TBinding.nos o) xs
def TBinding.n (x : TBinding) : Nat := x.Name.size + TValue.n x.Value
def TBinding.mk_ (x : TBinding) (k : Int) : TBinding := { Name := mt (k), Value := { Kind := k + 1, Num := k + 1 + 1, Text := mt (k + 1 + 1 + 1), Ref := k + 1 + 1 + 1 + 1 } }
def TBinding.nx (x : TBinding) (k : Int) : Int := k + 1 + 1 + 1 + 1 + 1
def TBinding.m (x : TBinding) : Nat := 1 + 1 + 1 + 1 + 1
theorem TBinding.nxm (x : TBinding) (k : Int) : TBinding.nx x k = k + TBinding.m x := by
 simp only [TBinding.nx, TBinding.m]; omega
theorem TBinding.mn (x : TBinding) : TBinding.m x ≤ 16 + 16 * TBinding.n x := by
 simp only [TBinding.m, TBinding.n, TValue.n]; omega
structure TFunction where
 Name : ByteArray
 Params : List ByteArray
 Locals : List ByteArray
 Label : ByteArray
 deriving DecidableEq, Inhabited
def TFunction.c (o : Bool) (x : TFunction) : List D := [D.str x.Name, D.sl o 1 (List.map D.str x.Params), D.sl o 1 (List.map D.str x.Locals), D.str x.Label]
def TFunction.e (o : Bool) (x : TFunction) : D := .agg (x.c o)
theorem TFunction.cells (o : Bool) (x : TFunction) : (TFunction.e o x).cells = [D.str x.Name, D.sl o 1 (List.map D.str x.Params), D.sl o 1 (List.map D.str x.Locals), D.str x.Label] := rfl
theorem TFunction.wc (o : Bool) (x : TFunction) (l : List D) : (TFunction.e o x).withCells l = .agg l := rfl
theorem TFunction.fold (o : Bool) (x : TFunction) : D.agg [D.str x.Name, D.sl o 1 (List.map D.str x.Params), D.sl o 1 (List.map D.str x.Locals), D.str x.Label] = TFunction.e o x := rfl
theorem TFunction.frz (o : Bool) (x : TFunction) : (TFunction.e o x).freeze = TFunction.e false x := by simp only [TFunction.e, TFunction.c, vx, znN]
theorem TFunction.frzL (o : Bool) (xs : List TFunction) : zae (xs.map (TFunction.e o)) = xs.map (TFunction.e false) := zbi (TFunction.frz o) xs
theorem TFunction.frzA (o : Bool) (xs : List TFunction) (r : List D) : zae (xs.map (TFunction.e o) ++ r) = xs.map (TFunction.e false) ++ zae r := zce (TFunction.frz o) xs r
theorem TFunction.nos (x : TFunction) : (TFunction.e true x).noS = true := by simp only [TFunction.e, TFunction.c, vx, znO]
theorem TFunction.nosL (xs : List TFunction) : noSL (xs.map (TFunction.e true)) = true := zcE TFunction.nos xs
def TFunction.n (x : TFunction) : Nat := x.Name.size + (x.Params.length + lsum ByteArray.size x.Params) + (x.Locals.length + lsum ByteArray.size x.Locals) + x.Label.size
def TFunction.mk_ (x : TFunction) (k : Int) : TFunction := { Name := mt (k), Params := mkL (fun _ k => mt k) (fun _ k => k + 1) x.Params (k + 1), Locals := mkL (fun _ k => mt k) (fun _ k => k + 1) x.Locals (zam (fun _ k => k + 1) x.Params (k + 1)), Label := mt (zam (fun _ k => k + 1) x.Locals (zam (fun _ k => k + 1) x.Params (k + 1))) }
def TFunction.nx (x : TFunction) (k : Int) : Int := zam (fun _ k => k + 1) x.Locals (zam (fun _ k => k + 1) x.Params (k + 1)) + 1
def TFunction.m (x : TFunction) : Nat := 1 + lsum (fun _ => 1) x.Params + lsum (fun _ => 1) x.Locals + 1
theorem TFunction.nxm (x : TFunction) (k : Int) : TFunction.nx x k = k + TFunction.m x := by
 simp only [TFunction.nx, TFunction.m, zdQ]; omega
theorem TFunction.mn (x : TFunction) : TFunction.m x ≤ 16 + 16 * TFunction.n x := by
 have h0 := znM ByteArray.size x.Params
 have h1 := znM ByteArray.size x.Locals
 simp only [TFunction.m, TFunction.n]; omega
def TFunction.smk (x : TFunction) (k : Int) : TFunction := { x with Params := mkL (fun _ k => mt k) (fun _ k => k + 1) x.Params (k), Locals := mkL (fun _ k => mt k) (fun _ k => k + 1) x.Locals (zam (fun _ k => k + 1) x.Params (k)) }
def TFunction.snx (x : TFunction) (k : Int) : Int := zam (fun _ k => k + 1) x.Locals (zam (fun _ k => k + 1) x.Params (k))
structure TRecordType where
 Name : ByteArray
 Fields : List ByteArray
 deriving DecidableEq, Inhabited
def TRecordType.c (o : Bool) (x : TRecordType) : List D := [D.str x.Name, D.sl o 1 (List.map D.str x.Fields)]
def TRecordType.e (o : Bool) (x : TRecordType) : D := .agg (x.c o)
theorem TRecordType.cells (o : Bool) (x : TRecordType) : (TRecordType.e o x).cells = [D.str x.Name, D.sl o 1 (List.map D.str x.Fields)] := rfl
theorem TRecordType.wc (o : Bool) (x : TRecordType) (l : List D) : (TRecordType.e o x).withCells l = .agg l := rfl
theorem TRecordType.fold (o : Bool) (x : TRecordType) : D.agg [D.str x.Name, D.sl o 1 (List.map D.str x.Fields)] = TRecordType.e o x := rfl
theorem TRecordType.frz (o : Bool) (x : TRecordType) : (TRecordType.e o x).freeze = TRecordType.e false x := by simp only [TRecordType.e, TRecordType.c, vx, znN]
theorem TRecordType.frzL (o : Bool) (xs : List TRecordType) : zae (xs.map (TRecordType.e o)) = xs.map (TRecordType.e false) := zbi (TRecordType.frz o) xs
theorem TRecordType.frzA (o : Bool) (xs : List TRecordType) (r : List D) : zae (xs.map (TRecordType.e o) ++ r) = xs.map (TRecordType.e false) ++ zae r := zce (TRecordType.frz o) xs r
theorem TRecordType.nos (x : TRecordType) : (TRecordType.e true x).noS = true := by simp only [TRecordType.e, TRecordType.c, vx, znO]
theorem TRecordType.nosL (xs : List TRecordType) : noSL (xs.map (TRecordType.e true)) = true := zcE TRecordType.nos xs
def TRecordType.n (x : TRecordType) : Nat := x.Name.size + (x.Fields.length + lsum ByteArray.size x.Fields)
def TRecordType.mk_ (x : TRecordType) (k : Int) : TRecordType := { Name := mt (k), Fields := mkL (fun _ k => mt k) (fun _ k => k + 1) x.Fields (k + 1) }
def TRecordType.nx (x : TRecordType) (k : Int) : Int := zam (fun _ k => k + 1) x.Fields (k + 1)
def TRecordType.m (x : TRecordType) : Nat := 1 + lsum (fun _ => 1) x.Fields
theorem TRecordType.nxm (x : TRecordType) (k : Int) : TRecordType.nx x k = k + TRecordType.m x := by
 simp only [TRecordType.nx, TRecordType.m, zdQ]; omega
theorem TRecordType.mn (x : TRecordType) : TRecordType.m x ≤ 16 + 16 * TRecordType.n x := by
 have h0 := znM ByteArray.size x.Fields
 simp only [TRecordType.m, TRecordType.n]; omega
def TRecordType.smk (x : TRecordType) (k : Int) : TRecordType := { x with Fields := mkL (fun _ k => mt k) (fun _ k => k + 1) x.Fields (k) }
def TRecordType.snx (x : TRecordType) (k : Int) : Int := zam (fun _ k => k + 1) x.Fields (k)
structure TScope where
 Vars : List TBinding
 Functions : List TFunction
 Types : List TRecordType
 deriving DecidableEq, Inhabited
def TScope.c (o : Bool) (x : TScope) : List D := [D.sl o 5 (List.map (TBinding.e false) x.Vars), D.sl o 4 (List.map (TFunction.e o) x.Functions), D.sl o 2 (List.map (TRecordType.e o) x.Types)]
def TScope.e (o : Bool) (x : TScope) : D := .agg (x.c o)
theorem TScope.cells (o : Bool) (x : TScope) : (TScope.e o x).cells = [D.sl o 5 (List.map (TBinding.e false) x.Vars), D.sl o 4 (List.map (TFunction.e o) x.Functions), D.sl o 2 (List.map (TRecordType.e o) x.Types)] := rfl
theorem TScope.wc (o : Bool) (x : TScope) (l : List D) : (TScope.e o x).withCells l = .agg l := rfl
theorem TScope.fold (o : Bool) (x : TScope) : D.agg [D.sl o 5 (List.map (TBinding.e false) x.Vars), D.sl o 4 (List.map (TFunction.e o) x.Functions), D.sl o 2 (List.map (TRecordType.e o) x.Types)] = TScope.e o x := rfl
theorem TScope.frz (o : Bool) (x : TScope) : (TScope.e o x).freeze = TScope.e false x := by simp only [TScope.e, TScope.c, vx, TBinding.frzL, TFunction.frzL, TRecordType.frzL]
theorem TScope.frzL (o : Bool) (xs : List TScope) : zae (xs.map (TScope.e o)) = xs.map (TScope.e false) := zbi (TScope.frz o) xs
theorem TScope.frzA (o : Bool) (xs : List TScope) (r : List D) : zae (xs.map (TScope.e o) ++ r) = xs.map (TScope.e false) ++ zae r := zce (TScope.frz o) xs r
theorem TScope.nos (x : TScope) : (TScope.e true x).noS = true := by simp only [TScope.e, TScope.c, vx, TBinding.nosL, TFunction.nosL, TRecordType.nosL]
theorem TScope.nosL (xs : List TScope) : noSL (xs.map (TScope.e true)) = true := zcE TScope.nos xs
def TScope.n (x : TScope) : Nat := (x.Vars.length + lsum TBinding.n x.Vars) + (x.Functions.length + lsum TFunction.n x.Functions) + (x.Types.length + lsum TRecordType.n x.Types)
def TScope.mk_ (x : TScope) (k : Int) : TScope := { Vars := mkL TBinding.mk_ TBinding.nx x.Vars (k), Functions := mkL TFunction.mk_ TFunction.nx x.Functions (zam TBinding.nx x.Vars (k)), Types := mkL TRecordType.mk_ TRecordType.nx x.Types (zam TFunction.nx x.Functions (zam TBinding.nx x.Vars (k))) }
def TScope.nx (x : TScope) (k : Int) : Int := zam TRecordType.nx x.Types (zam TFunction.nx x.Functions (zam TBinding.nx x.Vars (k)))
def TScope.m (x : TScope) : Nat := lsum TBinding.m x.Vars + lsum TFunction.m x.Functions + lsum TRecordType.m x.Types
theorem TScope.nxm (x : TScope) (k : Int) : TScope.nx x k = k + TScope.m x := by
 simp only [TScope.nx, TScope.m, zbQ TBinding.nxm, zbQ TFunction.nxm, zbQ TRecordType.nxm]; omega
theorem TScope.mn (x : TScope) : TScope.m x ≤ 16 + 16 * TScope.n x := by
 have h0 := zds TBinding.mn x.Vars
 have h1 := zds TFunction.mn x.Functions
 have h2 := zds TRecordType.mn x.Types
 simp only [TScope.m, TScope.n]; omega
def TScope.smk (x : TScope) (k : Int) : TScope := { x with Vars := mkL TBinding.mk_ TBinding.nx x.Vars (k), Functions := mkL TFunction.mk_ TFunction.nx x.Functions (zam TBinding.nx x.Vars (k)), Types := mkL TRecordType.mk_ TRecordType.nx x.Types (zam TFunction.nx x.Functions (zam TBinding.nx x.Vars (k))) }
def TScope.snx (x : TScope) (k : Int) : Int := zam TRecordType.nx x.Types (zam TFunction.nx x.Functions (zam TBinding.nx x.Vars (k)))
structure TObject where
 Id : Int
 Kind : Int
 Name : ByteArray
 Low : Int
 Keys : List TValue
 Vals : List TValue
 Default : TValue
 deriving DecidableEq, Inhabited
def TObject.c (o : Bool) (x : TObject) : List D := [D.int .i64 x.Id, D.int .i64 x.Kind, D.str x.Name, D.int .i64 x.Low, D.sl o 4 (List.map (TValue.e false) x.Keys), D.sl o 4 (List.map (TValue.e false) x.Vals), D.int .i64 x.Default.Kind, D.int .i64 x.Default.Num, D.str x.Default.Text, D.int .i64 x.Default.Ref]
def TObject.e (o : Bool) (x : TObject) : D := .agg (x.c o)
theorem TObject.cells (o : Bool) (x : TObject) : (TObject.e o x).cells = [D.int .i64 x.Id, D.int .i64 x.Kind, D.str x.Name, D.int .i64 x.Low, D.sl o 4 (List.map (TValue.e false) x.Keys), D.sl o 4 (List.map (TValue.e false) x.Vals), D.int .i64 x.Default.Kind, D.int .i64 x.Default.Num, D.str x.Default.Text, D.int .i64 x.Default.Ref] := rfl
theorem TObject.wc (o : Bool) (x : TObject) (l : List D) : (TObject.e o x).withCells l = .agg l := rfl
theorem TObject.fold (o : Bool) (x : TObject) : D.agg [D.int .i64 x.Id, D.int .i64 x.Kind, D.str x.Name, D.int .i64 x.Low, D.sl o 4 (List.map (TValue.e false) x.Keys), D.sl o 4 (List.map (TValue.e false) x.Vals), D.int .i64 x.Default.Kind, D.int .i64 x.Default.Num, D.str x.Default.Text, D.int .i64 x.Default.Ref] = TObject.e o x := rfl
theorem TObject.frz (o : Bool) (x : TObject) : (TObject.e o x).freeze = TObject.e false x := by simp only [TObject.e, TObject.c, vx, TValue.frzL]
theorem TObject.frzL (o : Bool) (xs : List TObject) : zae (xs.map (TObject.e o)) = xs.map (TObject.e false) := zbi (TObject.frz o) xs
theorem TObject.frzA (o : Bool) (xs : List TObject) (r : List D) : zae (xs.map (TObject.e o) ++ r) = xs.map (TObject.e false) ++ zae r := zce (TObject.frz o) xs r
theorem TObject.nos (x : TObject) : (TObject.e true x).noS = true := by simp only [TObject.e, TObject.c, vx, TValue.nosL]
theorem TObject.nosL (xs : List TObject) : noSL (xs.map (TObject.e true)) = true := zcE TObject.nos xs
def TObject.n (x : TObject) : Nat := x.Name.size + (x.Keys.length + lsum TValue.n x.Keys) + (x.Vals.length + lsum TValue.n x.Vals) + TValue.n x.Default
def TObject.mk_ (x : TObject) (k : Int) : TObject := { Id := k, Kind := k + 1, Name := mt (k + 1 + 1), Low := k + 1 + 1 + 1, Keys := mkL TValue.mk_ TValue.nx x.Keys (k + 1 + 1 + 1 + 1), Vals := mkL TValue.mk_ TValue.nx x.Vals (zam TValue.nx x.Keys (k + 1 + 1 + 1 + 1)), Default := { Kind := zam TValue.nx x.Vals (zam TValue.nx x.Keys (k + 1 + 1 + 1 + 1)), Num := zam TValue.nx x.Vals (zam TValue.nx x.Keys (k + 1 + 1 + 1 + 1)) + 1, Text := mt (zam TValue.nx x.Vals (zam TValue.nx x.Keys (k + 1 + 1 + 1 + 1)) + 1 + 1), Ref := zam TValue.nx x.Vals (zam TValue.nx x.Keys (k + 1 + 1 + 1 + 1)) + 1 + 1 + 1 } }
def TObject.nx (x : TObject) (k : Int) : Int := zam TValue.nx x.Vals (zam TValue.nx x.Keys (k + 1 + 1 + 1 + 1)) + 1 + 1 + 1 + 1
def TObject.m (x : TObject) : Nat := 1 + 1 + 1 + 1 + lsum TValue.m x.Keys + lsum TValue.m x.Vals + 1 + 1 + 1 + 1
theorem TObject.nxm (x : TObject) (k : Int) : TObject.nx x k = k + TObject.m x := by
 simp only [TObject.nx, TObject.m, zbQ TValue.nxm]; omega
theorem TObject.mn (x : TObject) : TObject.m x ≤ 16 + 16 * TObject.n x := by
 have h0 := zds TValue.mn x.Keys
 have h1 := zds TValue.mn x.Vals
 simp only [TObject.m, TObject.n, TValue.n]; omega
def TObject.smk (x : TObject) (k : Int) : TObject := { x with Keys := mkL TValue.mk_ TValue.nx x.Keys (k), Vals := mkL TValue.mk_ TValue.nx x.Vals (zam TValue.nx x.Keys (k)) }
def TObject.snx (x : TObject) (k : Int) : Int := zam TValue.nx x.Vals (zam TValue.nx x.Keys (k))
structure THeap where
 Next : Int
 Objects : List TObject
 deriving DecidableEq, Inhabited
def THeap.c (o : Bool) (x : THeap) : List D := [D.int .i64 x.Next, D.sl o 10 (List.map (TObject.e o) x.Objects)]
def THeap.e (o : Bool) (x : THeap) : D := .agg (x.c o)
theorem THeap.cells (o : Bool) (x : THeap) : (THeap.e o x).cells = [D.int .i64 x.Next, D.sl o 10 (List.map (TObject.e o) x.Objects)] := rfl
theorem THeap.wc (o : Bool) (x : THeap) (l : List D) : (THeap.e o x).withCells l = .agg l := rfl
theorem THeap.fold (o : Bool) (x : THeap) : D.agg [D.int .i64 x.Next, D.sl o 10 (List.map (TObject.e o) x.Objects)] = THeap.e o x := rfl
theorem THeap.frz (o : Bool) (x : THeap) : (THeap.e o x).freeze = THeap.e false x := by simp only [THeap.e, THeap.c, vx, TObject.frzL]
theorem THeap.frzL (o : Bool) (xs : List THeap) : zae (xs.map (THeap.e o)) = xs.map (THeap.e false) := zbi (THeap.frz o) xs
theorem THeap.frzA (o : Bool) (xs : List THeap) (r : List D) : zae (xs.map (THeap.e o) ++ r) = xs.map (THeap.e false) ++ zae r := zce (THeap.frz o) xs r
theorem THeap.nos (x : THeap) : (THeap.e true x).noS = true := by simp only [THeap.e, THeap.c, vx, TObject.nosL]
theorem THeap.nosL (xs : List THeap) : noSL (xs.map (THeap.e true)) = true := zcE THeap.nos xs
def THeap.n (x : THeap) : Nat := (x.Objects.length + lsum TObject.n x.Objects)
def THeap.mk_ (x : THeap) (k : Int) : THeap := { Next := k, Objects := mkL TObject.mk_ TObject.nx x.Objects (k + 1) }
def THeap.nx (x : THeap) (k : Int) : Int := zam TObject.nx x.Objects (k + 1)
def THeap.m (x : THeap) : Nat := 1 + lsum TObject.m x.Objects
theorem THeap.nxm (x : THeap) (k : Int) : THeap.nx x k = k + THeap.m x := by
 simp only [THeap.nx, THeap.m, zbQ TObject.nxm]; omega
theorem THeap.mn (x : THeap) : THeap.m x ≤ 16 + 16 * THeap.n x := by
 have h0 := zds TObject.mn x.Objects
 simp only [THeap.m, THeap.n]; omega
def THeap.smk (x : THeap) (k : Int) : THeap := { x with Objects := mkL TObject.mk_ TObject.nx x.Objects (k) }
def THeap.snx (x : THeap) (k : Int) : Int := zam TObject.nx x.Objects (k)
abbrev ty :=
 And.intro TValue.cells <|
 And.intro TValue.wc <|
 And.intro TValue.frz <|
 And.intro TValue.frzL <|
 And.intro TValue.frzA <|
 And.intro TValue.nos <|
 And.intro TValue.nosL <|
 And.intro TBinding.cells <|
 And.intro TBinding.wc <|
 And.intro TBinding.frz <|
 And.intro TBinding.frzL <|
 And.intro TBinding.frzA <|
 And.intro TBinding.nos <|
 And.intro TBinding.nosL <|
 And.intro TFunction.cells <|
 And.intro TFunction.wc <|
 And.intro TFunction.frz <|
 And.intro TFunction.frzL <|
 And.intro TFunction.frzA <|
 And.intro TFunction.nos <|
 And.intro TFunction.nosL <|
 And.intro TRecordType.cells <|
 And.intro TRecordType.wc <|
 And.intro TRecordType.frz <|
 And.intro TRecordType.frzL <|
 And.intro TRecordType.frzA <|
 And.intro TRecordType.nos <|
 And.intro TRecordType.nosL <|
 And.intro TScope.cells <|
 And.intro TScope.wc <|
 And.intro TScope.frz <|
 And.intro TScope.frzL <|
 And.intro TScope.frzA <|
 And.intro TScope.nos <|
 And.intro TScope.nosL <|
 And.intro TObject.cells <|
 And.intro TObject.wc <|
 And.intro TObject.frz <|
 And.intro TObject.frzL <|
 And.intro TObject.frzA <|
 And.intro TObject.nos <|
 And.intro TObject.nosL <|
 And.intro THeap.cells <|
 And.intro THeap.wc <|
 And.intro THeap.frz <|
 And.intro THeap.frzL <|
 And.intro THeap.frzA <|
 And.intro THeap.nos <|
 And.intro THeap.nosL <|
 And.intro D.strFrzA D.intFrzA
end Go.Vx
