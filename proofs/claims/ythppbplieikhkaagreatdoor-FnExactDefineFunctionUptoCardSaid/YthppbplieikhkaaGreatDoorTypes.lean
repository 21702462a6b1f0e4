/-
  The program's plain types: structures, the cells they lie in, their sizes and their marks.
-/
import Derived.Test.YthppbplieikhkaaGreatDoorVxD
set_option linter.unusedVariables false
set_option linter.unusedSimpArgs false
namespace Go.Vx
set_option linter.unusedVariables false
set_option linter.unusedSimpArgs false
structure TValue where
 Kind : Int
 Num : Int
 Text : ByteArray
 Ref : Int
 deriving DecidableEq, Inhabited
def TValue.c (o : Bool) (x : TValue) : List D := [D.int .i64 x.Kind, D.int .i64 x.Num, D.str x.Text, D.int .i64 x.Ref]
def TValue.e (o : Bool) (x : TValue) : D := .agg (x.c o)
theorem TValue.cells (o : Bool) (x : TValue) : (TValue.e o x).cells = [D.int .i64 x.Kind, D.int .i64 x.Num, D.str x.Text, D.int .i64 x.Ref] := rfl
theorem TValue.wc (o : Bool) (x : TValue) (l : List D) : (TValue.e o x).withCells l = .agg l := rfl
theorem TValue.fold (o : Bool) (x : TValue) : D.agg [D.int .i64 x.Kind, D.int .i64 x.Num, D.str x.Text, D.int .i64 x.Ref] = TValue.e o x := rfl
theorem TValue.frz (o : Bool) (x : TValue) : (TValue.e o x).freeze = TValue.e false x := by simp only [TValue.e, TValue.c, vx]
theorem TValue.frzL (o : Bool) (xs : List TValue) : zaj (xs.map (TValue.e o)) = xs.map (TValue.e false) := zbR (TValue.frz o) xs
theorem TValue.frzA (o : Bool) (xs : List TValue) (r : List D) : zaj (xs.map (TValue.e o) ++ r) = xs.map (TValue.e false) ++ zaj r := zdt (TValue.frz o) xs r
theorem TValue.nos (o : Bool) (x : TValue) : (TValue.e o x).noS = true := by simp only [TValue.e, TValue.c, vx]
theorem TValue.nosL (o : Bool) (xs : List TValue) : noSL (xs.map (TValue.e o)) = true := zdG (TValue.nos o) xs
def TValue.n (x : TValue) : Nat := x.Text.size
def TValue.mk_ (x : TValue) (k : Int) : TValue := { Kind := k, Num := k + 1, Text := mt (k + 1 + 1), Ref := k + 1 + 1 + 1 }
def TValue.nx (x : TValue) (k : Int) : Int := k + 1 + 1 + 1 + 1
def TValue.m (x : TValue) : Nat := 1 + 1 + 1 + 1
theorem TValue.nxm (x : TValue) (k : Int) : TValue.nx x k = k + TValue.m x := by
 simp only [TValue.nx, TValue.m]; omega
theorem TValue.mn (x : TValue) : TValue.m x ≤ 16 + 16 * TValue.n x := by
 simp only [TValue.m, TValue.n]; omega
structure TBinding where
 Name : ByteArray
 Value : TValue
 deriving DecidableEq, Inhabited
def TBinding.c (o : Bool) (x : TBinding) : List D := [D.str x.Name, D.int .i64 x.Value.Kind, D.int .i64 x.Value.Num, D.str x.Value.Text, D.int .i64 x.Value.Ref]
def TBinding.e (o : Bool) (x : TBinding) : D := .agg (x.c o)
theorem TBinding.cells (o : Bool) (x : TBinding) : (TBinding.e o x).cells = [D.str x.Name, D.int .i64 x.Value.Kind, D.int .i64 x.Value.Num, D.str x.Value.Text, D.int .i64 x.Value.Ref] := rfl
theorem TBinding.wc (o : Bool) (x : TBinding) (l : List D) : (TBinding.e o x).withCells l = .agg l := rfl
theorem TBinding.fold (o : Bool) (x : TBinding) : D.agg [D.str x.Name, D.int .i64 x.Value.Kind, D.int .i64 x.Value.Num, D.str x.Value.Text, D.int .i64 x.Value.Ref] = TBinding.e o x := rfl
theorem TBinding.frz (o : Bool) (x : TBinding) : (TBinding.e o x).freeze = TBinding.e false x := by simp only [TBinding.e, TBinding.c, vx]
theorem TBinding.frzL (o : Bool) (xs : List TBinding) : zaj (xs.map (TBinding.e o)) = xs.map (TBinding.e false) := zbR (TBinding.frz o) xs
theorem TBinding.frzA (o : Bool) (xs : List TBinding) (r : List D) : zaj (xs.map (TBinding.e o) ++ r) = xs.map (TBinding.e false) ++ zaj r := zdt (TBinding.frz o) xs r
theorem TBinding.nos (o : Bool) (x : TBinding) : (TBinding.e o x).noS = true := by simp only [TBinding.e, TBinding.c, vx]
theorem TBinding.nosL (o : Bool) (xs : List TBinding) : noSL (xs.map (TBinding.e o)) = true := zdG (TBinding.nos o) xs
def TBinding.n (x : TBinding) : Nat := x.Name.size + TValue.n x.Value
def TBinding.mk_ (x : TBinding) (k : Int) : TBinding := { Name := mt (k), Value := { Kind := k + 1, Num := k + 1 + 1, Text := mt (k + 1 + 1 + 1), Ref := k + 1 + 1 + 1 + 1 } }
def TBinding.nx (x : TBinding) (k : Int) : Int := k + 1 + 1 + 1 + 1 + 1
def TBinding.m (x : TBinding) : Nat := 1 + 1 + 1 + 1 + 1
theorem TBinding.nxm (x : TBinding) (k : Int) : TBinding.nx x k = k + TBinding.m x := by
 simp only [TBinding.nx, TBinding.m]; omega
theorem TBinding.mn (x : TBinding) : TBinding.m x ≤ 16 + 16 * TBinding.n x := by
 simp only [TBinding.m, TBinding.n, TValue.n]; omega
structure TFunction where
 Name : ByteArray
 Params : List ByteArray
 Locals : List ByteArray
 Label : ByteArray
 deriving DecidableEq, Inhabited
def TFunction.c (o : Bool) (x : TFunction) : List D := [D.str x.Name, D.sl o 1 (List.map D.str x.Params), D.sl o 1 (List.map D.str x.Locals), D.str x.Label]
def TFunction.e (o : Bool) (x : TFunction) : D := .agg (x.c o)
theorem TFunction.cells (o : Bool) (x : TFunction) : (TFunction.e o x).cells = [D.str x.Name, D.sl o 1 (List.map D.str x.Params), D.sl o 1 (List.map D.str x.Locals), D.str x.Label] := rfl
theorem TFunction.wc (o : Bool) (x : TFunction) (l : List D) : (TFunction.e o x).withCells l = .agg l := rfl
theorem TFunction.fold (o : Bool) (x : TFunction) : D.agg [D.str x.Name, D.sl o 1 (List.map D.str x.Params), D.sl o 1 (List.map D.str x.Locals), D.str x.Label] = TFunction.e o x := rfl
theorem TFunction.frz (o : Bool) (x : TFunction) : (TFunction.e o x).freeze = TFunction.e false x := by simp only [TFunction.e, TFunction.c, vx, zoM]
theorem TFunction.frzL (o : Bool) (xs : List TFunction) : zaj (xs.map (TFunction.e o)) = xs.map (TFunction.e false) := zbR (TFunction.frz o) xs
theorem TFunction.frzA (o : Bool) (xs : List TFunction) (r : List D) : zaj (xs.map (TFunction.e o) ++ r) = xs.map (TFunction.e false) ++ zaj r := zdt (TFunction.frz o) xs r
theorem TFunction.nos (x : TFunction) : (TFunction.e true x).noS = true := by simp only [TFunction.e, TFunction.c, vx, zoN]
theorem TFunction.nosL (xs : List TFunction) : noSL (xs.map (TFunction.e true)) = true := zdG TFunction.nos xs
def TFunction.n (x : TFunction) : Nat := x.Name.size + (x.Params.length + lsum ByteArray.size x.Params) + (x.Locals.length + lsum ByteArray.size x.Locals) + x.Label.size
def TFunction.mk_ (x : TFunction) (k : Int) : TFunction := { Name := mt (k), Params := mkL (fun _ k => mt k) (fun _ k => k + 1) x.Params (k + 1), Locals := mkL (fun _ k => mt k) (fun _ k => k + 1) x.Locals (zas (fun _ k => k + 1) x.Params (k + 1)), Label := mt (zas (fun _ k => k + 1) x.Locals (zas (fun _ k => k + 1) x.Params (k + 1))) }
def TFunction.nx (x : TFunction) (k : Int) : Int := zas (fun _ k => k + 1) x.Locals (zas (fun _ k => k + 1) x.Params (k + 1)) + 1
def TFunction.m (x : TFunction) : Nat := 1 + lsum (fun _ => 1) x.Params + lsum (fun _ => 1) x.Locals + 1
theorem TFunction.nxm (x : TFunction) (k : Int) : TFunction.nx x k = k + TFunction.m x := by
 simp only [TFunction.nx, TFunction.m, zec]; omega
theorem TFunction.mn (x : TFunction) : TFunction.m x ≤ 16 + 16 * TFunction.n x := by
 have h0 := zoL ByteArray.size x.Params
 have h1 := zoL ByteArray.size x.Locals
 simp only [TFunction.m, TFunction.n]; omega
def TFunction.smk (x : TFunction) (k : Int) : TFunction := { x with Params := mkL (fun _ k => mt k) (fun _ k => k + 1) x.Params (k), Locals := mkL (fun _ k => mt k) (fun _ k => k + 1) x.Locals (zas (fun _ k => k + 1) x.Params (k)) }
def TFunction.snx (x : TFunction) (k : Int) : Int := zas (fun _ k => k + 1) x.Locals (zas (fun _ k => k + 1) x.Params (k))
structure TRecordType where
 Name : ByteArray
 Fields : List ByteArray
 deriving DecidableEq, Inhabited
def TRecordType.c (o : Bool) (x : TRecordType) : List D := [D.str x.Name, D.sl o 1 (List.map D.str x.Fields)]
def TRecordType.e (o : Bool) (x : TRecordType) : D := .agg (x.c o)
theorem TRecordType.cells (o : Bool) (x : TRecordType) : (TRecordType.e o x).cells = [D.str x.Name, D.sl o 1 (List.map D.str x.Fields)] := rfl
theorem TRecordType.wc (o : Bool) (x : TRecordType) (l : List D) : (TRecordType.e o x).withCells l = .agg l := rfl
theorem TRecordType.fold (o : Bool) (x : TRecordType) : D.agg [D.str x.Name, D.sl o 1 (List.map D.str x.Fields)] = TRecordType.e o x := rfl
theorem TRecordType.frz (o : Bool) (x : TRecordType) : (TRecordType.e o x).freeze = TRecordType.e false x := by simp only [TRecordType.e, TRecordType.c, vx, zoM]
theorem TRecordType.frzL (o : Bool) (xs : List TRecordType) : zaj (xs.map (TRecordType.e o)) = xs.map (TRecordType.e false) := zbR (TRecordType.frz o) xs
theorem TRecordType.frzA (o : Bool) (xs : List TRecordType) (r : List D) : zaj (xs.map (TRecordType.e o) ++ r) = xs.map (TRecordType.e false) ++ zaj r := zdt (TRecordType.frz o) xs r
theorem TRecordType.nos (x : TRecordType) : (TRecordType.e true x).noS = true := by simp only [TRecordType.e, TRecordType.c, vx, zoN]
theorem TRecordType.nosL (xs : List TRecordType) : noSL (xs.map (TRecordType.e true)) = true := zdG TRecordType.nos xs
def TRecordType.n (x : TRecordType) : Nat := x.Name.size + (x.Fields.length + lsum ByteArray.size x.Fields)
def TRecordType.mk_ (x : TRecordType) (k : Int) : TRecordType := { Name := mt (k), Fields := mkL (fun _ k => mt k) (fun _ k => k + 1) x.Fields (k + 1) }
def TRecordType.nx (x : TRecordType) (k : Int) : Int := zas (fun _ k => k + 1) x.Fields (k + 1)
def TRecordType.m (x : TRecordType) : Nat := 1 + lsum (fun _ => 1) x.Fields
theorem TRecordType.nxm (x : TRecordType) (k : Int) : TRecordType.nx x k = k + TRecordType.m x := by
 simp only [TRecordType.nx, TRecordType.m, zec]; omega
theorem TRecordType.mn (x : TRecordType) : TRecordType.m x ≤ 16 + 16 * TRecordType.n x := by
 have h0 := zoL ByteArray.size x.Fields
 simp only [TRecordType.m, TRecordType.n]; omega
def TRecordType.smk (x : TRecordType) (k : Int) : TRecordType := { x with Fields := mkL (fun _ k => mt k) (fun _ k => k + 1) x.Fields (k) }
def TRecordType.snx (x : TRecordType) (k : Int) : Int := zas (fun _ k => k + 1) x.Fields (k)
structure TScope where
 Vars : List TBinding
 Functions : List TFunction
 Types : List TRecordType
 deriving DecidableEq, Inhabited
def TScope.c (o : Bool) (x : TScope) : List D := [D.sl o 5 (List.map (TBinding.e false) x.Vars), D.sl o 4 (List.map (TFunction.e o) x.Functions), D.sl o 2 (List.map (TRecordType.e o) x.Types)]
def TScope.e (o : Bool) (x : TScope) : D := .agg (x.c o)
theorem TScope.cells (o : Bool) (x : TScope) : (TScope.e o x).cells = [D.sl o 5 (List.map (TBinding.e false) x.Vars), D.sl o 4 (List.map (TFunction.e o) x.Functions), D.sl o 2 (List.map (TRecordType.e o) x.Types)] := rfl
theorem TScope.wc (o : Bool) (x : TScope) (l : List D) : (TScope.e o x).withCells l = .agg l := rfl
theorem TScope.fold (o : Bool) (x : TScope) : D.agg [D.sl o 5 (List.map (TBinding.e false) x.Vars), D.sl o 4 (List.map (TFunction.e o) x.Functions), D.sl o 2 (List.map (TRecordType.e o) x.Types)] = TScope.e o x := rfl
theorem TScope.frz (o : Bool) (x : TScope) : (TScope.e o x).freeze = TScope.e false x := by simp only [TScope.e, TScope.c, vx, TBinding.frzL, TFunction.frzL, TRecordType.frzL]
theorem TScope.frzL (o : Bool) (xs : List TScope) : zaj (xs.map (TScope.e o)) = xs.map (TScope.e false) := zbR (TScope.frz o) xs
theorem TScope.frzA (o : Bool) (xs : List TScope) (r : List D) : zaj (xs.map (TScope.e o) ++ r) = xs.map (TScope.e false) ++ zaj r := zdt (TScope.frz o) xs r
theorem TScope.nos (x : TScope) : (TScope.e true x).noS = true := by simp only [TScope.e, TScope.c, vx, TBinding.nosL, TFunction.nosL, TRecordType.nosL]
theorem TScope.nosL (xs : List TScope) : noSL (xs.map (TScope.e true)) = true := zdG TScope.nos xs
def TScope.n (x : TScope) : Nat := (x.Vars.length + lsum TBinding.n x.Vars) + (x.Functions.length + lsum TFunction.n x.Functions) + (x.Types.length + lsum TRecordType.n x.Types)
def TScope.mk_ (x : TScope) (k : Int) : TScope := { Vars := mkL TBinding.mk_ TBinding.nx x.Vars (k), Functions := mkL TFunction.mk_ TFunction.nx x.Functions (zas TBinding.nx x.Vars (k)), Types := mkL TRecordType.mk_ TRecordType.nx x.Types (zas TFunction.nx x.Functions (zas TBinding.nx x.Vars (k))) }
def TScope.nx (x : TScope) (k : Int) : Int := zas TRecordType.nx x.Types (zas TFunction.nx x.Functions (zas TBinding.nx x.Vars (k)))
def TScope.m (x : TScope) : Nat := lsum TBinding.m x.Vars + lsum TFunction.m x.Functions + lsum TRecordType.m x.Types
theorem TScope.nxm (x : TScope) (k : Int) : TScope.nx x k = k + TScope.m x := by
 simp only [TScope.nx, TScope.m, zby TBinding.nxm, zby TFunction.nxm, zby TRecordType.nxm]; omega
theorem TScope.mn (x : TScope) : TScope.m x ≤ 16 + 16 * TScope.n x := by
 have h0 := zdd TBinding.mn x.Vars
 have h1 := zdd TFunction.mn x.Functions
 have h2 := zdd TRecordType.mn x.Types
 simp only [TScope.m, TScope.n]; omega
def TScope.smk (x : TScope) (k : Int) : TScope := { x with Vars := mkL TBinding.mk_ TBinding.nx x.Vars (k), Functions := mkL TFunction.mk_ TFunction.nx x.Functions (zas TBinding.nx x.Vars (k)), Types := mkL TRecordType.mk_ TRecordType.nx x.Types (zas TFunction.nx x.Functions (zas TBinding.nx x.Vars (k))) }
def TScope.snx (x : TScope) (k : Int) : Int := zas TRecordType.nx x.Types (zas TFunction.nx x.Functions (zas TBinding.nx x.Vars (k)))
abbrev ty :=
 And.intro TValue.cells <|
 And.intro TValue.wc <|
 And.intro TValue.frz <|
 And.intro TValue.frzL <|
 And.intro TValue.frzA <|
 And.intro TValue.nos <|
 And.intro TValue.nosL <|
 And.intro TBinding.cells <|
 And.intro TBinding.wc <|
 And.intro TBinding.frz <|
 And.intro TBinding.frzL <|
 And.intro TBinding.frzA <|
 And.intro TBinding.nos <|
 And.intro TBinding.nosL <|
 And.intro TFunction.cells <|
 And.intro TFunction.wc <|
 And.intro TFunction.frz <|
 And.intro TFunction.frzL <|
 And.intro TFunction.frzA <|
 And.intro TFunction.nos <|
 And.intro TFunction.nosL <|
 And.intro TRecordType.cells <|
 And.intro TRecordType.wc <|
 And.intro TRecordType.frz <|
 And.intro TRecordType.frzL <|
 And.intro TRecordType.frzA <|
 And.intro TRecordType.nos <|
 And.intro TRecordType.nosL <|
 And.intro TScope.cells <|
 And.intro TScope.wc <|
 And.intro TScope.frz <|
 And.intro TScope.frzL <|
 And.intro TScope.frzA <|
 And.intro TScope.nos <|
 And.intro TScope.nosL <|
 And.intro D.strFrzA D.intFrzA
end Go.Vx
