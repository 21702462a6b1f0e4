/-
  The laws' own functions: sz.
-/
import Derived.Test.YtdhpbbopmlppfaaGreatTypes
import Derived.Test.YtdhpbbopmlppfaaGreatCode
set_option linter.unusedVariables false
set_option linter.unusedSimpArgs false
namespace Go.Vx.CmZ
set_option linter.unusedVariables false
set_option linter.unusedSimpArgs false
set_option maxRecDepth 4000
set_option maxHeartbeats 4000000
theorem znh {R:Type} (e:En R) (sto:List (List D)) (k:List Fr):∀ (rest pre:List ByteArray) (i left:Int),i=pre.length→pre.length + rest.length≤1048576→((lsum ByteArray.size rest:Nat):Int)≤left→left≤1048576 →
  go T e zoo (.lp zuQ::.bl 0::.sq (.clr [4,5,6,7,8,9,10,11,12,13,14,15,16,17,18,19,20,21,22,23,24,25,26])::k) ⟨[.d (.sl false 1 (pre.map D.str++rest.map D.str)),.d (.int .i64 left),Z,Z,Z,.d (.int .i64 i),Z,Z,Z,Z,Z,Z,Z,Z,Z,Z,Z,Z,Z,Z,Z,Z,Z,Z,Z,Z,Z,Z],sto⟩=bk T e k ⟨[.d (.sl false 1 (pre.map D.str++rest.map D.str)),.d (.int .i64 (left - (lsum ByteArray.size rest:Nat))),Z,Z,Z,Z,Z,Z,Z,Z,Z,Z,Z,Z,Z,Z,Z,Z,Z,Z,Z,Z,Z,Z,Z,Z,Z,Z],sto⟩:=by
 intro rest
 induction rest with
 | nil =>
  intro pre i left hi h1 h2 h3
  have hR:left - ((lsum ByteArray.size ([]:List ByteArray):Nat):Int)=left:=by simp [zbW]
  have ht:i.toNat=pre.length:=by omega
  rw [hR]
  unfold zoo
  simp (maxSteps:=9999999) (disch:=omega) only [vx,px,ty,↓reduceIte,seval,fx,go_lpc]
 | cons x rest ih =>
  intro pre i left hi h1 h2 h3
  have hR:left - ((lsum ByteArray.size (x::rest):Nat):Int)=left - (ByteArray.size x:Nat) - (lsum ByteArray.size rest:Nat):=by rw [zaf];omega
  have ht:i.toNat=pre.length:=by omega
  rw [zaf] at h2
  rw [List.length_cons] at h1
  rw [hR]
  unfold zoo
  simp (maxSteps:=9999999) (disch:=omega) only [vx,px,ty,↓reduceIte,seval,fx,go_lpc,ht,List.map_cons,ifT]
  have h:=ih (pre++[x]) (i + 1) (left - (ByteArray.size x:Nat)) (by simp;omega) (by simp;omega) (by omega) (by omega)
  simp only [zas] at h
  exact h
theorem zgh (xs:List ByteArray) (left:Int) (sto:List (List D)) (h:((xs.length + lsum ByteArray.size xs:Nat):Int)≤left) (h2:left≤1048576):zab T 34 [.sl false 1 (xs.map D.str),.int .i64 left] sto=some (.int .i64 (left - ((xs.length + lsum ByteArray.size xs:Nat):Int)),[],sto):=by
 rw [zac T (g:=v34) rfl rfl rfl _ _ rfl]
 simp (maxSteps:=9999999) (disch:=omega) only [vx,px,ty,↓reduceIte,seval,fx,v34,zAp,go_lpc]
 have hl:=fun k=>znh (enF [.tmp 4] []) sto k xs [] 0 (left - xs.length) rfl (by simp;omega) (by omega) (by omega)
 simp only [List.map_nil,List.nil_append] at hl
 rw [hl]
 simp (maxSteps:=9999999) (disch:=omega) only [vx,px,ty,↓reduceIte,seval,fx]
 try exact congrArg (fun z=>some (D.int .i64 z,([]:List D),sto)) (by omega)
theorem zjp (x:TValue) (left:Int) (sto:List (List D)) (h:((TValue.n x:Nat):Int)≤left) (h2:left≤1048576):zab T 141 [D.agg [D.int .i64 x.Kind,D.int .i64 x.Num,D.str x.Text,D.int .i64 x.Ref],.int .i64 left] sto=some (.int .i64 (left - (TValue.n x:Nat)),[],sto):=by
 simp only [TValue.n] at h ⊢
 rw [zac T (g:=v141) rfl rfl rfl _ _ rfl]
 simp (maxSteps:=9999999) (disch:=omega) only [vx,px,ty,↓reduceIte,seval,fx,v141,zxc]
 try exact congrArg (fun z=>some (D.int .i64 z,([]:List D),sto)) (by omega)
theorem zpp {R:Type} (e:En R) (sto:List (List D)) (k:List Fr):∀ (rest pre:List TValue) (i left:Int),i=pre.length→pre.length + rest.length≤1048576→((lsum TValue.n rest:Nat):Int)≤left→left≤1048576 →
  go T e zkU (.lp zry::.bl 0::.sq (.clr [4,5,6,7,8,9,10,11,12,13,14,15,16,17,18,19,20,21,22,23,24,25])::k) ⟨[.d (.sl false 4 (pre.map (TValue.e false)++rest.map (TValue.e false))),.d (.int .i64 left),Z,Z,Z,.d (.int .i64 i),Z,Z,Z,Z,Z,Z,Z,Z,Z,Z,Z,Z,Z,Z,Z,Z,Z,Z,Z,Z,Z],sto⟩=bk T e k ⟨[.d (.sl false 4 (pre.map (TValue.e false)++rest.map (TValue.e false))),.d (.int .i64 (left - (lsum TValue.n rest:Nat))),Z,Z,Z,Z,Z,Z,Z,Z,Z,Z,Z,Z,Z,Z,Z,Z,Z,Z,Z,Z,Z,Z,Z,Z,Z],sto⟩:=by
 intro rest
 induction rest with
 | nil =>
  intro pre i left hi h1 h2 h3
  have hR:left - ((lsum TValue.n ([]:List TValue):Nat):Int)=left:=by simp [zbW]
  have ht:i.toNat=pre.length:=by omega
  rw [hR]
  unfold zkU
  simp (maxSteps:=9999999) (disch:=omega) only [vx,px,ty,↓reduceIte,seval,fx,go_lpc]
 | cons x rest ih =>
  intro pre i left hi h1 h2 h3
  have hR:left - ((lsum TValue.n (x::rest):Nat):Int)=left - (TValue.n x:Nat) - (lsum TValue.n rest:Nat):=by rw [zaf];omega
  have ht:i.toNat=pre.length:=by omega
  rw [zaf] at h2
  rw [List.length_cons] at h1
  rw [hR]
  unfold zkU
  simp (maxSteps:=9999999) (disch:=omega) only [vx,px,ty,↓reduceIte,seval,fx,go_lpc,ht,List.map_cons,ifT,zjp]
  have h:=ih (pre++[x]) (i + 1) (left - (TValue.n x:Nat)) (by simp;omega) (by simp;omega) (by omega) (by omega)
  simp only [zas] at h
  exact h
theorem zpq (xs:List TValue) (left:Int) (sto:List (List D)) (h:((xs.length + lsum TValue.n xs:Nat):Int)≤left) (h2:left≤1048576):zab T 140 [.sl false 4 (xs.map (TValue.e false)),.int .i64 left] sto=some (.int .i64 (left - ((xs.length + lsum TValue.n xs:Nat):Int)),[],sto):=by
 rw [zac T (g:=v140) rfl rfl rfl _ _ rfl]
 simp (maxSteps:=9999999) (disch:=omega) only [vx,px,ty,↓reduceIte,seval,fx,v140,zxb,go_lpc]
 have hl:=fun k=>zpp (enF [.tmp 4] []) sto k xs [] 0 (left - xs.length) rfl (by simp;omega) (by omega) (by omega)
 simp only [List.map_nil,List.nil_append] at hl
 rw [hl]
 simp (maxSteps:=9999999) (disch:=omega) only [vx,px,ty,↓reduceIte,seval,fx]
 try exact congrArg (fun z=>some (D.int .i64 z,([]:List D),sto)) (by omega)
theorem zpr (x:TObject) (left:Int) (sto:List (List D)) (h:((TObject.n x:Nat):Int)≤left) (h2:left≤1048576):zab T 77 [D.agg [D.int .i64 x.Id,D.int .i64 x.Kind,D.str x.Name,D.int .i64 x.Low,D.sl false 4 (List.map (TValue.e false) x.Keys),D.sl false 4 (List.map (TValue.e false) x.Vals),D.int .i64 x.Default.Kind,D.int .i64 x.Default.Num,D.str x.Default.Text,D.int .i64 x.Default.Ref],.int .i64 left] sto=some (.int .i64 (left - (TObject.n x:Nat)),[],sto):=by
 simp only [TObject.n] at h ⊢
 rw [zac T (g:=v77) rfl rfl rfl _ _ rfl]
 simp (maxSteps:=9999999) (disch:=omega) only [vx,px,ty,↓reduceIte,seval,fx,v77,zBg,zjp,zpq]
 try exact congrArg (fun z=>some (D.int .i64 z,([]:List D),sto)) (by omega)
theorem zni {R:Type} (e:En R) (sto:List (List D)) (k:List Fr):∀ (rest pre:List TObject) (i left:Int),i=pre.length→pre.length + rest.length≤1048576→((lsum TObject.n rest:Nat):Int)≤left→left≤1048576 →
  go T e zok (.lp zuM::.bl 0::.sq (.clr [4,5,6,7,8,9,10,11,12,13,14,15,16,17,18,19,20,21,22,23,24,25])::k) ⟨[.d (.sl false 10 (pre.map (TObject.e false)++rest.map (TObject.e false))),.d (.int .i64 left),Z,Z,Z,.d (.int .i64 i),Z,Z,Z,Z,Z,Z,Z,Z,Z,Z,Z,Z,Z,Z,Z,Z,Z,Z,Z,Z,Z],sto⟩=bk T e k ⟨[.d (.sl false 10 (pre.map (TObject.e false)++rest.map (TObject.e false))),.d (.int .i64 (left - (lsum TObject.n rest:Nat))),Z,Z,Z,Z,Z,Z,Z,Z,Z,Z,Z,Z,Z,Z,Z,Z,Z,Z,Z,Z,Z,Z,Z,Z,Z],sto⟩:=by
 intro rest
 induction rest with
 | nil =>
  intro pre i left hi h1 h2 h3
  have hR:left - ((lsum TObject.n ([]:List TObject):Nat):Int)=left:=by simp [zbW]
  have ht:i.toNat=pre.length:=by omega
  rw [hR]
  unfold zok
  simp (maxSteps:=9999999) (disch:=omega) only [vx,px,ty,↓reduceIte,seval,fx,go_lpc]
 | cons x rest ih =>
  intro pre i left hi h1 h2 h3
  have hR:left - ((lsum TObject.n (x::rest):Nat):Int)=left - (TObject.n x:Nat) - (lsum TObject.n rest:Nat):=by rw [zaf];omega
  have ht:i.toNat=pre.length:=by omega
  rw [zaf] at h2
  rw [List.length_cons] at h1
  rw [hR]
  unfold zok
  simp (maxSteps:=9999999) (disch:=omega) only [vx,px,ty,↓reduceIte,seval,fx,go_lpc,ht,List.map_cons,ifT,zpr]
  have h:=ih (pre++[x]) (i + 1) (left - (TObject.n x:Nat)) (by simp;omega) (by simp;omega) (by omega) (by omega)
  simp only [zas] at h
  exact h
theorem znj (xs:List TObject) (left:Int) (sto:List (List D)) (h:((xs.length + lsum TObject.n xs:Nat):Int)≤left) (h2:left≤1048576):zab T 30 [.sl false 10 (xs.map (TObject.e false)),.int .i64 left] sto=some (.int .i64 (left - ((xs.length + lsum TObject.n xs:Nat):Int)),[],sto):=by
 rw [zac T (g:=v30) rfl rfl rfl _ _ rfl]
 simp (maxSteps:=9999999) (disch:=omega) only [vx,px,ty,↓reduceIte,seval,fx,v30,zAl,go_lpc]
 have hl:=fun k=>zni (enF [.tmp 4] []) sto k xs [] 0 (left - xs.length) rfl (by simp;omega) (by omega) (by omega)
 simp only [List.map_nil,List.nil_append] at hl
 rw [hl]
 simp (maxSteps:=9999999) (disch:=omega) only [vx,px,ty,↓reduceIte,seval,fx]
 try exact congrArg (fun z=>some (D.int .i64 z,([]:List D),sto)) (by omega)
theorem ztP (x:THeap) (left:Int) (sto:List (List D)) (h:((THeap.n x:Nat):Int)≤left) (h2:left≤1048576):zab T 11 [D.agg [D.int .i64 x.Next,D.sl false 10 (List.map (TObject.e false) x.Objects)],.int .i64 left] sto=some (.int .i64 (left - (THeap.n x:Nat)),[],sto):=by
 simp only [THeap.n] at h ⊢
 rw [zac T (g:=v11) rfl rfl rfl _ _ rfl]
 simp (maxSteps:=9999999) (disch:=omega) only [vx,px,ty,↓reduceIte,seval,fx,v11,zzV,znj]
 try exact congrArg (fun z=>some (D.int .i64 z,([]:List D),sto)) (by omega)
theorem znk (x:TBinding) (left:Int) (sto:List (List D)) (h:((TBinding.n x:Nat):Int)≤left) (h2:left≤1048576):zab T 78 [D.agg [D.str x.Name,D.int .i64 x.Value.Kind,D.int .i64 x.Value.Num,D.str x.Value.Text,D.int .i64 x.Value.Ref],.int .i64 left] sto=some (.int .i64 (left - (TBinding.n x:Nat)),[],sto):=by
 simp only [TBinding.n] at h ⊢
 rw [zac T (g:=v78) rfl rfl rfl _ _ rfl]
 simp (maxSteps:=9999999) (disch:=omega) only [vx,px,ty,↓reduceIte,seval,fx,v78,zBh,zjp]
 try exact congrArg (fun z=>some (D.int .i64 z,([]:List D),sto)) (by omega)
theorem zme {R:Type} (e:En R) (sto:List (List D)) (k:List Fr):∀ (rest pre:List TBinding) (i left:Int),i=pre.length→pre.length + rest.length≤1048576→((lsum TBinding.n rest:Nat):Int)≤left→left≤1048576 →
  go T e zol (.lp zuN::.bl 0::.sq (.clr [4,5,6,7,8,9,10,11,12,13,14,15,16,17,18,19,20,21,22,23,24,25])::k) ⟨[.d (.sl false 5 (pre.map (TBinding.e false)++rest.map (TBinding.e false))),.d (.int .i64 left),Z,Z,Z,.d (.int .i64 i),Z,Z,Z,Z,Z,Z,Z,Z,Z,Z,Z,Z,Z,Z,Z,Z,Z,Z,Z,Z,Z],sto⟩=bk T e k ⟨[.d (.sl false 5 (pre.map (TBinding.e false)++rest.map (TBinding.e false))),.d (.int .i64 (left - (lsum TBinding.n rest:Nat))),Z,Z,Z,Z,Z,Z,Z,Z,Z,Z,Z,Z,Z,Z,Z,Z,Z,Z,Z,Z,Z,Z,Z,Z,Z],sto⟩:=by
 intro rest
 induction rest with
 | nil =>
  intro pre i left hi h1 h2 h3
  have hR:left - ((lsum TBinding.n ([]:List TBinding):Nat):Int)=left:=by simp [zbW]
  have ht:i.toNat=pre.length:=by omega
  rw [hR]
  unfold zol
  simp (maxSteps:=9999999) (disch:=omega) only [vx,px,ty,↓reduceIte,seval,fx,go_lpc]
 | cons x rest ih =>
  intro pre i left hi h1 h2 h3
  have hR:left - ((lsum TBinding.n (x::rest):Nat):Int)=left - (TBinding.n x:Nat) - (lsum TBinding.n rest:Nat):=by rw [zaf];omega
  have ht:i.toNat=pre.length:=by omega
  rw [zaf] at h2
  rw [List.length_cons] at h1
  rw [hR]
  unfold zol
  simp (maxSteps:=9999999) (disch:=omega) only [vx,px,ty,↓reduceIte,seval,fx,go_lpc,ht,List.map_cons,ifT,znk]
  have h:=ih (pre++[x]) (i + 1) (left - (TBinding.n x:Nat)) (by simp;omega) (by simp;omega) (by omega) (by omega)
  simp only [zas] at h
  exact h
theorem zmf (xs:List TBinding) (left:Int) (sto:List (List D)) (h:((xs.length + lsum TBinding.n xs:Nat):Int)≤left) (h2:left≤1048576):zab T 31 [.sl false 5 (xs.map (TBinding.e false)),.int .i64 left] sto=some (.int .i64 (left - ((xs.length + lsum TBinding.n xs:Nat):Int)),[],sto):=by
 rw [zac T (g:=v31) rfl rfl rfl _ _ rfl]
 simp (maxSteps:=9999999) (disch:=omega) only [vx,px,ty,↓reduceIte,seval,fx,v31,zAm,go_lpc]
 have hl:=fun k=>zme (enF [.tmp 4] []) sto k xs [] 0 (left - xs.length) rfl (by simp;omega) (by omega) (by omega)
 simp only [List.map_nil,List.nil_append] at hl
 rw [hl]
 simp (maxSteps:=9999999) (disch:=omega) only [vx,px,ty,↓reduceIte,seval,fx]
 try exact congrArg (fun z=>some (D.int .i64 z,([]:List D),sto)) (by omega)
theorem zmg (x:TFunction) (left:Int) (sto:List (List D)) (h:((TFunction.n x:Nat):Int)≤left) (h2:left≤1048576):zab T 79 [D.agg [D.str x.Name,D.sl false 1 (List.map D.str x.Params),D.sl false 1 (List.map D.str x.Locals),D.str x.Label],.int .i64 left] sto=some (.int .i64 (left - (TFunction.n x:Nat)),[],sto):=by
 simp only [TFunction.n] at h ⊢
 rw [zac T (g:=v79) rfl rfl rfl _ _ rfl]
 simp (maxSteps:=9999999) (disch:=omega) only [vx,px,ty,↓reduceIte,seval,fx,v79,zBi,zgh]
 try exact congrArg (fun z=>some (D.int .i64 z,([]:List D),sto)) (by omega)
theorem zlc {R:Type} (e:En R) (sto:List (List D)) (k:List Fr):∀ (rest pre:List TFunction) (i left:Int),i=pre.length→pre.length + rest.length≤1048576→((lsum TFunction.n rest:Nat):Int)≤left→left≤1048576 →
  go T e zom (.lp zuO::.bl 0::.sq (.clr [4,5,6,7,8,9,10,11,12,13,14,15,16,17,18,19,20,21,22,23,24,25])::k) ⟨[.d (.sl false 4 (pre.map (TFunction.e false)++rest.map (TFunction.e false))),.d (.int .i64 left),Z,Z,Z,.d (.int .i64 i),Z,Z,Z,Z,Z,Z,Z,Z,Z,Z,Z,Z,Z,Z,Z,Z,Z,Z,Z,Z,Z],sto⟩=bk T e k ⟨[.d (.sl false 4 (pre.map (TFunction.e false)++rest.map (TFunction.e false))),.d (.int .i64 (left - (lsum TFunction.n rest:Nat))),Z,Z,Z,Z,Z,Z,Z,Z,Z,Z,Z,Z,Z,Z,Z,Z,Z,Z,Z,Z,Z,Z,Z,Z,Z],sto⟩:=by
 intro rest
 induction rest with
 | nil =>
  intro pre i left hi h1 h2 h3
  have hR:left - ((lsum TFunction.n ([]:List TFunction):Nat):Int)=left:=by simp [zbW]
  have ht:i.toNat=pre.length:=by omega
  rw [hR]
  unfold zom
  simp (maxSteps:=9999999) (disch:=omega) only [vx,px,ty,↓reduceIte,seval,fx,go_lpc]
 | cons x rest ih =>
  intro pre i left hi h1 h2 h3
  have hR:left - ((lsum TFunction.n (x::rest):Nat):Int)=left - (TFunction.n x:Nat) - (lsum TFunction.n rest:Nat):=by rw [zaf];omega
  have ht:i.toNat=pre.length:=by omega
  rw [zaf] at h2
  rw [List.length_cons] at h1
  rw [hR]
  unfold zom
  simp (maxSteps:=9999999) (disch:=omega) only [vx,px,ty,↓reduceIte,seval,fx,go_lpc,ht,List.map_cons,ifT,zmg]
  have h:=ih (pre++[x]) (i + 1) (left - (TFunction.n x:Nat)) (by simp;omega) (by simp;omega) (by omega) (by omega)
  simp only [zas] at h
  exact h
theorem zld (xs:List TFunction) (left:Int) (sto:List (List D)) (h:((xs.length + lsum TFunction.n xs:Nat):Int)≤left) (h2:left≤1048576):zab T 32 [.sl false 4 (xs.map (TFunction.e false)),.int .i64 left] sto=some (.int .i64 (left - ((xs.length + lsum TFunction.n xs:Nat):Int)),[],sto):=by
 rw [zac T (g:=v32) rfl rfl rfl _ _ rfl]
 simp (maxSteps:=9999999) (disch:=omega) only [vx,px,ty,↓reduceIte,seval,fx,v32,zAn,go_lpc]
 have hl:=fun k=>zlc (enF [.tmp 4] []) sto k xs [] 0 (left - xs.length) rfl (by simp;omega) (by omega) (by omega)
 simp only [List.map_nil,List.nil_append] at hl
 rw [hl]
 simp (maxSteps:=9999999) (disch:=omega) only [vx,px,ty,↓reduceIte,seval,fx]
 try exact congrArg (fun z=>some (D.int .i64 z,([]:List D),sto)) (by omega)
theorem zjO (x:TRecordType) (left:Int) (sto:List (List D)) (h:((TRecordType.n x:Nat):Int)≤left) (h2:left≤1048576):zab T 80 [D.agg [D.str x.Name,D.sl false 1 (List.map D.str x.Fields)],.int .i64 left] sto=some (.int .i64 (left - (TRecordType.n x:Nat)),[],sto):=by
 simp only [TRecordType.n] at h ⊢
 rw [zac T (g:=v80) rfl rfl rfl _ _ rfl]
 simp (maxSteps:=9999999) (disch:=omega) only [vx,px,ty,↓reduceIte,seval,fx,v80,zBj,zgh]
 try exact congrArg (fun z=>some (D.int .i64 z,([]:List D),sto)) (by omega)
theorem zjq {R:Type} (e:En R) (sto:List (List D)) (k:List Fr):∀ (rest pre:List TRecordType) (i left:Int),i=pre.length→pre.length + rest.length≤1048576→((lsum TRecordType.n rest:Nat):Int)≤left→left≤1048576 →
  go T e zon (.lp zuP::.bl 0::.sq (.clr [4,5,6,7,8,9,10,11,12,13,14,15,16,17,18,19,20,21,22,23,24,25])::k) ⟨[.d (.sl false 2 (pre.map (TRecordType.e false)++rest.map (TRecordType.e false))),.d (.int .i64 left),Z,Z,Z,.d (.int .i64 i),Z,Z,Z,Z,Z,Z,Z,Z,Z,Z,Z,Z,Z,Z,Z,Z,Z,Z,Z,Z,Z],sto⟩=bk T e k ⟨[.d (.sl false 2 (pre.map (TRecordType.e false)++rest.map (TRecordType.e false))),.d (.int .i64 (left - (lsum TRecordType.n rest:Nat))),Z,Z,Z,Z,Z,Z,Z,Z,Z,Z,Z,Z,Z,Z,Z,Z,Z,Z,Z,Z,Z,Z,Z,Z,Z],sto⟩:=by
 intro rest
 induction rest with
 | nil =>
  intro pre i left hi h1 h2 h3
  have hR:left - ((lsum TRecordType.n ([]:List TRecordType):Nat):Int)=left:=by simp [zbW]
  have ht:i.toNat=pre.length:=by omega
  rw [hR]
  unfold zon
  simp (maxSteps:=9999999) (disch:=omega) only [vx,px,ty,↓reduceIte,seval,fx,go_lpc]
 | cons x rest ih =>
  intro pre i left hi h1 h2 h3
  have hR:left - ((lsum TRecordType.n (x::rest):Nat):Int)=left - (TRecordType.n x:Nat) - (lsum TRecordType.n rest:Nat):=by rw [zaf];omega
  have ht:i.toNat=pre.length:=by omega
  rw [zaf] at h2
  rw [List.length_cons] at h1
  rw [hR]
  unfold zon
  simp (maxSteps:=9999999) (disch:=omega) only [vx,px,ty,↓reduceIte,seval,fx,go_lpc,ht,List.map_cons,ifT,zjO]
  have h:=ih (pre++[x]) (i + 1) (left - (TRecordType.n x:Nat)) (by simp;omega) (by simp;omega) (by omega) (by omega)
  simp only [zas] at h
  exact h
theorem zjr (xs:List TRecordType) (left:Int) (sto:List (List D)) (h:((xs.length + lsum TRecordType.n xs:Nat):Int)≤left) (h2:left≤1048576):zab T 33 [.sl false 2 (xs.map (TRecordType.e false)),.int .i64 left] sto=some (.int .i64 (left - ((xs.length + lsum TRecordType.n xs:Nat):Int)),[],sto):=by
 rw [zac T (g:=v33) rfl rfl rfl _ _ rfl]
 simp (maxSteps:=9999999) (disch:=omega) only [vx,px,ty,↓reduceIte,seval,fx,v33,zAo,go_lpc]
 have hl:=fun k=>zjq (enF [.tmp 4] []) sto k xs [] 0 (left - xs.length) rfl (by simp;omega) (by omega) (by omega)
 simp only [List.map_nil,List.nil_append] at hl
 rw [hl]
 simp (maxSteps:=9999999) (disch:=omega) only [vx,px,ty,↓reduceIte,seval,fx]
 try exact congrArg (fun z=>some (D.int .i64 z,([]:List D),sto)) (by omega)
theorem zsH (x:TScope) (left:Int) (sto:List (List D)) (h:((TScope.n x:Nat):Int)≤left) (h2:left≤1048576):zab T 12 [D.agg [D.sl false 5 (List.map (TBinding.e false) x.Vars),D.sl false 4 (List.map (TFunction.e false) x.Functions),D.sl false 2 (List.map (TRecordType.e false) x.Types)],.int .i64 left] sto=some (.int .i64 (left - (TScope.n x:Nat)),[],sto):=by
 simp only [TScope.n] at h ⊢
 rw [zac T (g:=v12) rfl rfl rfl _ _ rfl]
 simp (maxSteps:=9999999) (disch:=omega) only [vx,px,ty,↓reduceIte,seval,fx,v12,zzW,zmf,zld,zjr]
 try exact congrArg (fun z=>some (D.int .i64 z,([]:List D),sto)) (by omega)
theorem ztQ (x:TFile) (left:Int) (sto:List (List D)) (h:((TFile.n x:Nat):Int)≤left) (h2:left≤1048576):zab T 81 [D.agg [D.str x.Name,D.sl false 1 (List.map D.str x.Lines),D.int .i64 x.Mode,D.int .i64 x.At],.int .i64 left] sto=some (.int .i64 (left - (TFile.n x:Nat)),[],sto):=by
 simp only [TFile.n] at h ⊢
 rw [zac T (g:=v81) rfl rfl rfl _ _ rfl]
 simp (maxSteps:=9999999) (disch:=omega) only [vx,px,ty,↓reduceIte,seval,fx,v81,zBk,zgh]
 try exact congrArg (fun z=>some (D.int .i64 z,([]:List D),sto)) (by omega)
theorem zsI {R:Type} (e:En R) (sto:List (List D)) (k:List Fr):∀ (rest pre:List TFile) (i left:Int),i=pre.length→pre.length + rest.length≤1048576→((lsum TFile.n rest:Nat):Int)≤left→left≤1048576 →
  go T e zop (.lp zuR::.bl 0::.sq (.clr [4,5,6,7,8,9,10,11,12,13,14,15,16,17,18,19,20,21,22,23,24,25])::k) ⟨[.d (.sl false 4 (pre.map (TFile.e false)++rest.map (TFile.e false))),.d (.int .i64 left),Z,Z,Z,.d (.int .i64 i),Z,Z,Z,Z,Z,Z,Z,Z,Z,Z,Z,Z,Z,Z,Z,Z,Z,Z,Z,Z,Z],sto⟩=bk T e k ⟨[.d (.sl false 4 (pre.map (TFile.e false)++rest.map (TFile.e false))),.d (.int .i64 (left - (lsum TFile.n rest:Nat))),Z,Z,Z,Z,Z,Z,Z,Z,Z,Z,Z,Z,Z,Z,Z,Z,Z,Z,Z,Z,Z,Z,Z,Z,Z],sto⟩:=by
 intro rest
 induction rest with
 | nil =>
  intro pre i left hi h1 h2 h3
  have hR:left - ((lsum TFile.n ([]:List TFile):Nat):Int)=left:=by simp [zbW]
  have ht:i.toNat=pre.length:=by omega
  rw [hR]
  unfold zop
  simp (maxSteps:=9999999) (disch:=omega) only [vx,px,ty,↓reduceIte,seval,fx,go_lpc]
 | cons x rest ih =>
  intro pre i left hi h1 h2 h3
  have hR:left - ((lsum TFile.n (x::rest):Nat):Int)=left - (TFile.n x:Nat) - (lsum TFile.n rest:Nat):=by rw [zaf];omega
  have ht:i.toNat=pre.length:=by omega
  rw [zaf] at h2
  rw [List.length_cons] at h1
  rw [hR]
  unfold zop
  simp (maxSteps:=9999999) (disch:=omega) only [vx,px,ty,↓reduceIte,seval,fx,go_lpc,ht,List.map_cons,ifT,ztQ]
  have h:=ih (pre++[x]) (i + 1) (left - (TFile.n x:Nat)) (by simp;omega) (by simp;omega) (by omega) (by omega)
  simp only [zas] at h
  exact h
theorem zsJ (xs:List TFile) (left:Int) (sto:List (List D)) (h:((xs.length + lsum TFile.n xs:Nat):Int)≤left) (h2:left≤1048576):zab T 35 [.sl false 4 (xs.map (TFile.e false)),.int .i64 left] sto=some (.int .i64 (left - ((xs.length + lsum TFile.n xs:Nat):Int)),[],sto):=by
 rw [zac T (g:=v35) rfl rfl rfl _ _ rfl]
 simp (maxSteps:=9999999) (disch:=omega) only [vx,px,ty,↓reduceIte,seval,fx,v35,zAq,go_lpc]
 have hl:=fun k=>zsI (enF [.tmp 4] []) sto k xs [] 0 (left - xs.length) rfl (by simp;omega) (by omega) (by omega)
 simp only [List.map_nil,List.nil_append] at hl
 rw [hl]
 simp (maxSteps:=9999999) (disch:=omega) only [vx,px,ty,↓reduceIte,seval,fx]
 try exact congrArg (fun z=>some (D.int .i64 z,([]:List D),sto)) (by omega)
theorem znl (x:TConsole) (left:Int) (sto:List (List D)) (h:((TConsole.n x:Nat):Int)≤left) (h2:left≤1048576):zab T 13 [D.agg [D.sl false 1 (List.map D.str x.Input),D.int .i64 x.At,D.sl false 1 (List.map D.str x.Output),D.sl false 4 (List.map (TFile.e false) x.Files),D.sl false 1 (List.map D.str x.Trace)],.int .i64 left] sto=some (.int .i64 (left - (TConsole.n x:Nat)),[],sto):=by
 simp only [TConsole.n] at h ⊢
 rw [zac T (g:=v13) rfl rfl rfl _ _ rfl]
 simp (maxSteps:=9999999) (disch:=omega) only [vx,px,ty,↓reduceIte,seval,fx,v13,zzX,zsJ,zgh]
 try exact congrArg (fun z=>some (D.int .i64 z,([]:List D),sto)) (by omega)
theorem zps (x:TMemory) (left:Int) (sto:List (List D)) (h:((TMemory.n x:Nat):Int)≤left) (h2:left≤1048576):zab T 4 [D.agg [D.int .i64 x.Heap.Next,D.sl false 10 (List.map (TObject.e false) x.Heap.Objects),D.sl false 5 (List.map (TBinding.e false) x.Scope.Vars),D.sl false 4 (List.map (TFunction.e false) x.Scope.Functions),D.sl false 2 (List.map (TRecordType.e false) x.Scope.Types),D.sl false 1 (List.map D.str x.Console.Input),D.int .i64 x.Console.At,D.sl false 1 (List.map D.str x.Console.Output),D.sl false 4 (List.map (TFile.e false) x.Console.Files),D.sl false 1 (List.map D.str x.Console.Trace)],.int .i64 left] sto=some (.int .i64 (left - (TMemory.n x:Nat)),[],sto):=by
 simp only [TMemory.n] at h ⊢
 rw [zac T (g:=v4) rfl rfl rfl _ _ rfl]
 simp (maxSteps:=9999999) (disch:=omega) only [vx,px,ty,↓reduceIte,seval,fx,v4,v4_b,znl,ztP,zsH]
 try exact congrArg (fun z=>some (D.int .i64 z,([]:List D),sto)) (by omega)
end Go.Vx.CmZ
