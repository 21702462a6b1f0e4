/-
  The laws' own functions: sz.
-/
import Derived.Test.YtapepbhnleekbaaGreatDoorTypes
import Derived.Test.YtapepbhnleekbaaGreatDoorCode
set_option linter.unusedVariables false
set_option linter.unusedSimpArgs false
namespace Go.Vx.WvZ
set_option maxRecDepth 4000
set_option maxHeartbeats 4000000
theorem znI {R:Type} (e:En R) (sto:List (List D)) (k:List Fr):∀ (rest pre:List ByteArray) (i left:Int),i=pre.length->pre.length + rest.length<=1048576->((lsum ByteArray.size rest:Nat):Int)<=left->left<=1048576 ->
  go T e zoS (.lp zvz::.bl 0::.sq (.clr [4,5,6,7,8,9,10,11,12,13,14,15,16,17,18,19,20,21,22,23,24,25,26])::k) ⟨[.d (.sl false 1 (pre.map D.str++rest.map D.str)),.d (.int .i64 left),Z,Z,Z,.d (.int .i64 i),Z,Z,Z,Z,Z,Z,Z,Z,Z,Z,Z,Z,Z,Z,Z,Z,Z,Z,Z,Z,Z,Z],sto⟩=bk T e k ⟨[.d (.sl false 1 (pre.map D.str++rest.map D.str)),.d (.int .i64 (left - (lsum ByteArray.size rest:Nat))),Z,Z,Z,Z,Z,Z,Z,Z,Z,Z,Z,Z,Z,Z,Z,Z,Z,Z,Z,Z,Z,Z,Z,Z,Z,Z],sto⟩:=by
 intro rest
 induction rest with
 | nil =>
  intro pre i left hi h1 h2 h3
  have hR:left - ((lsum ByteArray.size ([]:List ByteArray):Nat):Int)=left:=by simp [zcl]
  have ht:i.toNat=pre.length:=by omega
  rw [hR]
  unfold zoS
  simp (maxSteps:=9999999) (disch:=omega) only [vx,px,ty,↓reduceIte,seval,fx,go_lpc]
 | cons x rest ih =>
  intro pre i left hi h1 h2 h3
  have hR:left - ((lsum ByteArray.size (x::rest):Nat):Int)=left - (ByteArray.size x:Nat) - (lsum ByteArray.size rest:Nat):=by rw [zag];omega
  have ht:i.toNat=pre.length:=by omega
  rw [zag] at h2
  rw [List.length_cons] at h1
  rw [hR]
  unfold zoS
  simp (maxSteps:=9999999) (disch:=omega) only [vx,px,ty,↓reduceIte,seval,fx,go_lpc,ht,List.map_cons,ifT]
  have h:=ih (pre++[x]) (i + 1) (left - (ByteArray.size x:Nat)) (by simp;omega) (by simp;omega) (by omega) (by omega)
  simp only [zav] at h
  exact h
theorem zgi (xs:List ByteArray) (left:Int) (sto:List (List D)) (h:((xs.length + lsum ByteArray.size xs:Nat):Int)<=left) (h2:left<=1048576):zab T 51 [.sl false 1 (xs.map D.str),.int .i64 left] sto=some (.int .i64 (left - ((xs.length + lsum ByteArray.size xs:Nat):Int)),[],sto):=by
 rw [zac T (g:=v51) rfl rfl rfl _ _ rfl]
 simp (maxSteps:=9999999) (disch:=omega) only [vx,px,ty,↓reduceIte,seval,fx,v51,zBh,go_lpc]
 have hl:=fun k=>znI (enF [.tmp 4] []) sto k xs [] 0 (left - xs.length) rfl (by simp;omega) (by omega) (by omega)
 simp only [List.map_nil,List.nil_append] at hl
 rw [hl]
 simp (maxSteps:=9999999) (disch:=omega) only [vx,px,ty,↓reduceIte,seval,fx]
 try exact congrArg (fun z=>some (D.int .i64 z,([]:List D),sto)) (by omega)
theorem zhT (x:TValue) (left:Int) (sto:List (List D)) (h:((TValue.n x:Nat):Int)<=left) (h2:left<=1048576):zab T 6 [D.agg [D.int .i64 x.Kind,D.int .i64 x.Num,D.str x.Text,D.int .i64 x.Ref],.int .i64 left] sto=some (.int .i64 (left - (TValue.n x:Nat)),[],sto):=by
 simp only [TValue.n] at h ⊢
 rw [zac T (g:=v6) rfl rfl rfl _ _ rfl]
 simp (maxSteps:=9999999) (disch:=omega) only [vx,px,ty,↓reduceIte,seval,fx,v6,v6_b]
 try exact congrArg (fun z=>some (D.int .i64 z,([]:List D),sto)) (by omega)
theorem zpW {R:Type} (e:En R) (sto:List (List D)) (k:List Fr):∀ (rest pre:List TValue) (i left:Int),i=pre.length->pre.length + rest.length<=1048576->((lsum TValue.n rest:Nat):Int)<=left->left<=1048576 ->
  go T e zlx (.lp zsG::.bl 0::.sq (.clr [4,5,6,7,8,9,10,11,12,13,14,15,16,17,18,19,20,21,22,23,24,25])::k) ⟨[.d (.sl false 4 (pre.map (TValue.e false)++rest.map (TValue.e false))),.d (.int .i64 left),Z,Z,Z,.d (.int .i64 i),Z,Z,Z,Z,Z,Z,Z,Z,Z,Z,Z,Z,Z,Z,Z,Z,Z,Z,Z,Z,Z],sto⟩=bk T e k ⟨[.d (.sl false 4 (pre.map (TValue.e false)++rest.map (TValue.e false))),.d (.int .i64 (left - (lsum TValue.n rest:Nat))),Z,Z,Z,Z,Z,Z,Z,Z,Z,Z,Z,Z,Z,Z,Z,Z,Z,Z,Z,Z,Z,Z,Z,Z,Z],sto⟩:=by
 intro rest
 induction rest with
 | nil =>
  intro pre i left hi h1 h2 h3
  have hR:left - ((lsum TValue.n ([]:List TValue):Nat):Int)=left:=by simp [zcl]
  have ht:i.toNat=pre.length:=by omega
  rw [hR]
  unfold zlx
  simp (maxSteps:=9999999) (disch:=omega) only [vx,px,ty,↓reduceIte,seval,fx,go_lpc]
 | cons x rest ih =>
  intro pre i left hi h1 h2 h3
  have hR:left - ((lsum TValue.n (x::rest):Nat):Int)=left - (TValue.n x:Nat) - (lsum TValue.n rest:Nat):=by rw [zag];omega
  have ht:i.toNat=pre.length:=by omega
  rw [zag] at h2
  rw [List.length_cons] at h1
  rw [hR]
  unfold zlx
  simp (maxSteps:=9999999) (disch:=omega) only [vx,px,ty,↓reduceIte,seval,fx,go_lpc,ht,List.map_cons,ifT,zhT]
  have h:=ih (pre++[x]) (i + 1) (left - (TValue.n x:Nat)) (by simp;omega) (by simp;omega) (by omega) (by omega)
  simp only [zav] at h
  exact h
theorem zpX (xs:List TValue) (left:Int) (sto:List (List D)) (h:((xs.length + lsum TValue.n xs:Nat):Int)<=left) (h2:left<=1048576):zab T 199 [.sl false 4 (xs.map (TValue.e false)),.int .i64 left] sto=some (.int .i64 (left - ((xs.length + lsum TValue.n xs:Nat):Int)),[],sto):=by
 rw [zac T (g:=v199) rfl rfl rfl _ _ rfl]
 simp (maxSteps:=9999999) (disch:=omega) only [vx,px,ty,↓reduceIte,seval,fx,v199,zyn,go_lpc]
 have hl:=fun k=>zpW (enF [.tmp 4] []) sto k xs [] 0 (left - xs.length) rfl (by simp;omega) (by omega) (by omega)
 simp only [List.map_nil,List.nil_append] at hl
 rw [hl]
 simp (maxSteps:=9999999) (disch:=omega) only [vx,px,ty,↓reduceIte,seval,fx]
 try exact congrArg (fun z=>some (D.int .i64 z,([]:List D),sto)) (by omega)
theorem zpY (x:TObject) (left:Int) (sto:List (List D)) (h:((TObject.n x:Nat):Int)<=left) (h2:left<=1048576):zab T 112 [D.agg [D.int .i64 x.Id,D.int .i64 x.Kind,D.str x.Name,D.int .i64 x.Low,D.sl false 4 (List.map (TValue.e false) x.Keys),D.sl false 4 (List.map (TValue.e false) x.Vals),D.int .i64 x.Default.Kind,D.int .i64 x.Default.Num,D.str x.Default.Text,D.int .i64 x.Default.Ref],.int .i64 left] sto=some (.int .i64 (left - (TObject.n x:Nat)),[],sto):=by
 simp only [TObject.n] at h ⊢
 rw [zac T (g:=v112) rfl rfl rfl _ _ rfl]
 simp (maxSteps:=9999999) (disch:=omega) only [vx,px,ty,↓reduceIte,seval,fx,v112,zwU,zhT,zpX]
 try exact congrArg (fun z=>some (D.int .i64 z,([]:List D),sto)) (by omega)
theorem znJ {R:Type} (e:En R) (sto:List (List D)) (k:List Fr):∀ (rest pre:List TObject) (i left:Int),i=pre.length->pre.length + rest.length<=1048576->((lsum TObject.n rest:Nat):Int)<=left->left<=1048576 ->
  go T e zoO (.lp zvv::.bl 0::.sq (.clr [4,5,6,7,8,9,10,11,12,13,14,15,16,17,18,19,20,21,22,23,24,25])::k) ⟨[.d (.sl false 10 (pre.map (TObject.e false)++rest.map (TObject.e false))),.d (.int .i64 left),Z,Z,Z,.d (.int .i64 i),Z,Z,Z,Z,Z,Z,Z,Z,Z,Z,Z,Z,Z,Z,Z,Z,Z,Z,Z,Z,Z],sto⟩=bk T e k ⟨[.d (.sl false 10 (pre.map (TObject.e false)++rest.map (TObject.e false))),.d (.int .i64 (left - (lsum TObject.n rest:Nat))),Z,Z,Z,Z,Z,Z,Z,Z,Z,Z,Z,Z,Z,Z,Z,Z,Z,Z,Z,Z,Z,Z,Z,Z,Z],sto⟩:=by
 intro rest
 induction rest with
 | nil =>
  intro pre i left hi h1 h2 h3
  have hR:left - ((lsum TObject.n ([]:List TObject):Nat):Int)=left:=by simp [zcl]
  have ht:i.toNat=pre.length:=by omega
  rw [hR]
  unfold zoO
  simp (maxSteps:=9999999) (disch:=omega) only [vx,px,ty,↓reduceIte,seval,fx,go_lpc]
 | cons x rest ih =>
  intro pre i left hi h1 h2 h3
  have hR:left - ((lsum TObject.n (x::rest):Nat):Int)=left - (TObject.n x:Nat) - (lsum TObject.n rest:Nat):=by rw [zag];omega
  have ht:i.toNat=pre.length:=by omega
  rw [zag] at h2
  rw [List.length_cons] at h1
  rw [hR]
  unfold zoO
  simp (maxSteps:=9999999) (disch:=omega) only [vx,px,ty,↓reduceIte,seval,fx,go_lpc,ht,List.map_cons,ifT,zpY]
  have h:=ih (pre++[x]) (i + 1) (left - (TObject.n x:Nat)) (by simp;omega) (by simp;omega) (by omega) (by omega)
  simp only [zav] at h
  exact h
theorem znK (xs:List TObject) (left:Int) (sto:List (List D)) (h:((xs.length + lsum TObject.n xs:Nat):Int)<=left) (h2:left<=1048576):zab T 47 [.sl false 10 (xs.map (TObject.e false)),.int .i64 left] sto=some (.int .i64 (left - ((xs.length + lsum TObject.n xs:Nat):Int)),[],sto):=by
 rw [zac T (g:=v47) rfl rfl rfl _ _ rfl]
 simp (maxSteps:=9999999) (disch:=omega) only [vx,px,ty,↓reduceIte,seval,fx,v47,zBd,go_lpc]
 have hl:=fun k=>znJ (enF [.tmp 4] []) sto k xs [] 0 (left - xs.length) rfl (by simp;omega) (by omega) (by omega)
 simp only [List.map_nil,List.nil_append] at hl
 rw [hl]
 simp (maxSteps:=9999999) (disch:=omega) only [vx,px,ty,↓reduceIte,seval,fx]
 try exact congrArg (fun z=>some (D.int .i64 z,([]:List D),sto)) (by omega)
theorem zuv (x:THeap) (left:Int) (sto:List (List D)) (h:((THeap.n x:Nat):Int)<=left) (h2:left<=1048576):zab T 18 [D.agg [D.int .i64 x.Next,D.sl false 10 (List.map (TObject.e false) x.Objects)],.int .i64 left] sto=some (.int .i64 (left - (THeap.n x:Nat)),[],sto):=by
 simp only [THeap.n] at h ⊢
 rw [zac T (g:=v18) rfl rfl rfl _ _ rfl]
 simp (maxSteps:=9999999) (disch:=omega) only [vx,px,ty,↓reduceIte,seval,fx,v18,zAH,znK]
 try exact congrArg (fun z=>some (D.int .i64 z,([]:List D),sto)) (by omega)
theorem znL (x:TBinding) (left:Int) (sto:List (List D)) (h:((TBinding.n x:Nat):Int)<=left) (h2:left<=1048576):zab T 113 [D.agg [D.str x.Name,D.int .i64 x.Value.Kind,D.int .i64 x.Value.Num,D.str x.Value.Text,D.int .i64 x.Value.Ref],.int .i64 left] sto=some (.int .i64 (left - (TBinding.n x:Nat)),[],sto):=by
 simp only [TBinding.n] at h ⊢
 rw [zac T (g:=v113) rfl rfl rfl _ _ rfl]
 simp (maxSteps:=9999999) (disch:=omega) only [vx,px,ty,↓reduceIte,seval,fx,v113,zwV,zhT]
 try exact congrArg (fun z=>some (D.int .i64 z,([]:List D),sto)) (by omega)
theorem zmF {R:Type} (e:En R) (sto:List (List D)) (k:List Fr):∀ (rest pre:List TBinding) (i left:Int),i=pre.length->pre.length + rest.length<=1048576->((lsum TBinding.n rest:Nat):Int)<=left->left<=1048576 ->
  go T e zoP (.lp zvw::.bl 0::.sq (.clr [4,5,6,7,8,9,10,11,12,13,14,15,16,17,18,19,20,21,22,23,24,25])::k) ⟨[.d (.sl false 5 (pre.map (TBinding.e false)++rest.map (TBinding.e false))),.d (.int .i64 left),Z,Z,Z,.d (.int .i64 i),Z,Z,Z,Z,Z,Z,Z,Z,Z,Z,Z,Z,Z,Z,Z,Z,Z,Z,Z,Z,Z],sto⟩=bk T e k ⟨[.d (.sl false 5 (pre.map (TBinding.e false)++rest.map (TBinding.e false))),.d (.int .i64 (left - (lsum TBinding.n rest:Nat))),Z,Z,Z,Z,Z,Z,Z,Z,Z,Z,Z,Z,Z,Z,Z,Z,Z,Z,Z,Z,Z,Z,Z,Z,Z],sto⟩:=by
 intro rest
 induction rest with
 | nil =>
  intro pre i left hi h1 h2 h3
  have hR:left - ((lsum TBinding.n ([]:List TBinding):Nat):Int)=left:=by simp [zcl]
  have ht:i.toNat=pre.length:=by omega
  rw [hR]
  unfold zoP
  simp (maxSteps:=9999999) (disch:=omega) only [vx,px,ty,↓reduceIte,seval,fx,go_lpc]
 | cons x rest ih =>
  intro pre i left hi h1 h2 h3
  have hR:left - ((lsum TBinding.n (x::rest):Nat):Int)=left - (TBinding.n x:Nat) - (lsum TBinding.n rest:Nat):=by rw [zag];omega
  have ht:i.toNat=pre.length:=by omega
  rw [zag] at h2
  rw [List.length_cons] at h1
  rw [hR]
  unfold zoP
  simp (maxSteps:=9999999) (disch:=omega) only [vx,px,ty,↓reduceIte,seval,fx,go_lpc,ht,List.map_cons,ifT,znL]
  have h:=ih (pre++[x]) (i + 1) (left - (TBinding.n x:Nat)) (by simp;omega) (by simp;omega) (by omega) (by omega)
  simp only [zav] at h
  exact h
theorem zmG (xs:List TBinding) (left:Int) (sto:List (List D)) (h:((xs.length + lsum TBinding.n xs:Nat):Int)<=left) (h2:left<=1048576):zab T 48 [.sl false 5 (xs.map (TBinding.e false)),.int .i64 left] sto=some (.int .i64 (left - ((xs.length + lsum TBinding.n xs:Nat):Int)),[],sto):=by
 rw [zac T (g:=v48) rfl rfl rfl _ _ rfl]
 simp (maxSteps:=9999999) (disch:=omega) only [vx,px,ty,↓reduceIte,seval,fx,v48,zBe,go_lpc]
 have hl:=fun k=>zmF (enF [.tmp 4] []) sto k xs [] 0 (left - xs.length) rfl (by simp;omega) (by omega) (by omega)
 simp only [List.map_nil,List.nil_append] at hl
 rw [hl]
 simp (maxSteps:=9999999) (disch:=omega) only [vx,px,ty,↓reduceIte,seval,fx]
 try exact congrArg (fun z=>some (D.int .i64 z,([]:List D),sto)) (by omega)
theorem zmH (x:TFunction) (left:Int) (sto:List (List D)) (h:((TFunction.n x:Nat):Int)<=left) (h2:left<=1048576):zab T 114 [D.agg [D.str x.Name,D.sl false 1 (List.map D.str x.Params),D.sl false 1 (List.map D.str x.Locals),D.str x.Label],.int .i64 left] sto=some (.int .i64 (left - (TFunction.n x:Nat)),[],sto):=by
 simp only [TFunction.n] at h ⊢
 rw [zac T (g:=v114) rfl rfl rfl _ _ rfl]
 simp (maxSteps:=9999999) (disch:=omega) only [vx,px,ty,↓reduceIte,seval,fx,v114,zwW,zgi]
 try exact congrArg (fun z=>some (D.int .i64 z,([]:List D),sto)) (by omega)
theorem zlD {R:Type} (e:En R) (sto:List (List D)) (k:List Fr):∀ (rest pre:List TFunction) (i left:Int),i=pre.length->pre.length + rest.length<=1048576->((lsum TFunction.n rest:Nat):Int)<=left->left<=1048576 ->
  go T e zoQ (.lp zvx::.bl 0::.sq (.clr [4,5,6,7,8,9,10,11,12,13,14,15,16,17,18,19,20,21,22,23,24,25])::k) ⟨[.d (.sl false 4 (pre.map (TFunction.e false)++rest.map (TFunction.e false))),.d (.int .i64 left),Z,Z,Z,.d (.int .i64 i),Z,Z,Z,Z,Z,Z,Z,Z,Z,Z,Z,Z,Z,Z,Z,Z,Z,Z,Z,Z,Z],sto⟩=bk T e k ⟨[.d (.sl false 4 (pre.map (TFunction.e false)++rest.map (TFunction.e false))),.d (.int .i64 (left - (lsum TFunction.n rest:Nat))),Z,Z,Z,Z,Z,Z,Z,Z,Z,Z,Z,Z,Z,Z,Z,Z,Z,Z,Z,Z,Z,Z,Z,Z,Z],sto⟩:=by
 intro rest
 induction rest with
 | nil =>
  intro pre i left hi h1 h2 h3
  have hR:left - ((lsum TFunction.n ([]:List TFunction):Nat):Int)=left:=by simp [zcl]
  have ht:i.toNat=pre.length:=by omega
  rw [hR]
  unfold zoQ
  simp (maxSteps:=9999999) (disch:=omega) only [vx,px,ty,↓reduceIte,seval,fx,go_lpc]
 | cons x rest ih =>
  intro pre i left hi h1 h2 h3
  have hR:left - ((lsum TFunction.n (x::rest):Nat):Int)=left - (TFunction.n x:Nat) - (lsum TFunction.n rest:Nat):=by rw [zag];omega
  have ht:i.toNat=pre.length:=by omega
  rw [zag] at h2
  rw [List.length_cons] at h1
  rw [hR]
  unfold zoQ
  simp (maxSteps:=9999999) (disch:=omega) only [vx,px,ty,↓reduceIte,seval,fx,go_lpc,ht,List.map_cons,ifT,zmH]
  have h:=ih (pre++[x]) (i + 1) (left - (TFunction.n x:Nat)) (by simp;omega) (by simp;omega) (by omega) (by omega)
  simp only [zav] at h
  exact h
theorem zlE (xs:List TFunction) (left:Int) (sto:List (List D)) (h:((xs.length + lsum TFunction.n xs:Nat):Int)<=left) (h2:left<=1048576):zab T 49 [.sl false 4 (xs.map (TFunction.e false)),.int .i64 left] sto=some (.int .i64 (left - ((xs.length + lsum TFunction.n xs:Nat):Int)),[],sto):=by
 rw [zac T (g:=v49) rfl rfl rfl _ _ rfl]
 simp (maxSteps:=9999999) (disch:=omega) only [vx,px,ty,↓reduceIte,seval,fx,v49,zBf,go_lpc]
 have hl:=fun k=>zlD (enF [.tmp 4] []) sto k xs [] 0 (left - xs.length) rfl (by simp;omega) (by omega) (by omega)
 simp only [List.map_nil,List.nil_append] at hl
 rw [hl]
 simp (maxSteps:=9999999) (disch:=omega) only [vx,px,ty,↓reduceIte,seval,fx]
 try exact congrArg (fun z=>some (D.int .i64 z,([]:List D),sto)) (by omega)
theorem zkh (x:TRecordType) (left:Int) (sto:List (List D)) (h:((TRecordType.n x:Nat):Int)<=left) (h2:left<=1048576):zab T 115 [D.agg [D.str x.Name,D.sl false 1 (List.map D.str x.Fields)],.int .i64 left] sto=some (.int .i64 (left - (TRecordType.n x:Nat)),[],sto):=by
 simp only [TRecordType.n] at h ⊢
 rw [zac T (g:=v115) rfl rfl rfl _ _ rfl]
 simp (maxSteps:=9999999) (disch:=omega) only [vx,px,ty,↓reduceIte,seval,fx,v115,zwX,zgi]
 try exact congrArg (fun z=>some (D.int .i64 z,([]:List D),sto)) (by omega)
theorem zjC {R:Type} (e:En R) (sto:List (List D)) (k:List Fr):∀ (rest pre:List TRecordType) (i left:Int),i=pre.length->pre.length + rest.length<=1048576->((lsum TRecordType.n rest:Nat):Int)<=left->left<=1048576 ->
  go T e zoR (.lp zvy::.bl 0::.sq (.clr [4,5,6,7,8,9,10,11,12,13,14,15,16,17,18,19,20,21,22,23,24,25])::k) ⟨[.d (.sl false 2 (pre.map (TRecordType.e false)++rest.map (TRecordType.e false))),.d (.int .i64 left),Z,Z,Z,.d (.int .i64 i),Z,Z,Z,Z,Z,Z,Z,Z,Z,Z,Z,Z,Z,Z,Z,Z,Z,Z,Z,Z,Z],sto⟩=bk T e k ⟨[.d (.sl false 2 (pre.map (TRecordType.e false)++rest.map (TRecordType.e false))),.d (.int .i64 (left - (lsum TRecordType.n rest:Nat))),Z,Z,Z,Z,Z,Z,Z,Z,Z,Z,Z,Z,Z,Z,Z,Z,Z,Z,Z,Z,Z,Z,Z,Z,Z],sto⟩:=by
 intro rest
 induction rest with
 | nil =>
  intro pre i left hi h1 h2 h3
  have hR:left - ((lsum TRecordType.n ([]:List TRecordType):Nat):Int)=left:=by simp [zcl]
  have ht:i.toNat=pre.length:=by omega
  rw [hR]
  unfold zoR
  simp (maxSteps:=9999999) (disch:=omega) only [vx,px,ty,↓reduceIte,seval,fx,go_lpc]
 | cons x rest ih =>
  intro pre i left hi h1 h2 h3
  have hR:left - ((lsum TRecordType.n (x::rest):Nat):Int)=left - (TRecordType.n x:Nat) - (lsum TRecordType.n rest:Nat):=by rw [zag];omega
  have ht:i.toNat=pre.length:=by omega
  rw [zag] at h2
  rw [List.length_cons] at h1
  rw [hR]
  unfold zoR
  simp (maxSteps:=9999999) (disch:=omega) only [vx,px,ty,↓reduceIte,seval,fx,go_lpc,ht,List.map_cons,ifT,zkh]
  have h:=ih (pre++[x]) (i + 1) (left - (TRecordType.n x:Nat)) (by simp;omega) (by simp;omega) (by omega) (by omega)
  simp only [zav] at h
  exact h
theorem zjD (xs:List TRecordType) (left:Int) (sto:List (List D)) (h:((xs.length + lsum TRecordType.n xs:Nat):Int)<=left) (h2:left<=1048576):zab T 50 [.sl false 2 (xs.map (TRecordType.e false)),.int .i64 left] sto=some (.int .i64 (left - ((xs.length + lsum TRecordType.n xs:Nat):Int)),[],sto):=by
 rw [zac T (g:=v50) rfl rfl rfl _ _ rfl]
 simp (maxSteps:=9999999) (disch:=omega) only [vx,px,ty,↓reduceIte,seval,fx,v50,zBg,go_lpc]
 have hl:=fun k=>zjC (enF [.tmp 4] []) sto k xs [] 0 (left - xs.length) rfl (by simp;omega) (by omega) (by omega)
 simp only [List.map_nil,List.nil_append] at hl
 rw [hl]
 simp (maxSteps:=9999999) (disch:=omega) only [vx,px,ty,↓reduceIte,seval,fx]
 try exact congrArg (fun z=>some (D.int .i64 z,([]:List D),sto)) (by omega)
theorem ztn (x:TScope) (left:Int) (sto:List (List D)) (h:((TScope.n x:Nat):Int)<=left) (h2:left<=1048576):zab T 19 [D.agg [D.sl false 5 (List.map (TBinding.e false) x.Vars),D.sl false 4 (List.map (TFunction.e false) x.Functions),D.sl false 2 (List.map (TRecordType.e false) x.Types)],.int .i64 left] sto=some (.int .i64 (left - (TScope.n x:Nat)),[],sto):=by
 simp only [TScope.n] at h ⊢
 rw [zac T (g:=v19) rfl rfl rfl _ _ rfl]
 simp (maxSteps:=9999999) (disch:=omega) only [vx,px,ty,↓reduceIte,seval,fx,v19,zAI,zmG,zlE,zjD]
 try exact congrArg (fun z=>some (D.int .i64 z,([]:List D),sto)) (by omega)
theorem zuw (x:TFile) (left:Int) (sto:List (List D)) (h:((TFile.n x:Nat):Int)<=left) (h2:left<=1048576):zab T 116 [D.agg [D.str x.Name,D.sl false 1 (List.map D.str x.Lines),D.int .i64 x.Mode,D.int .i64 x.At],.int .i64 left] sto=some (.int .i64 (left - (TFile.n x:Nat)),[],sto):=by
 simp only [TFile.n] at h ⊢
 rw [zac T (g:=v116) rfl rfl rfl _ _ rfl]
 simp (maxSteps:=9999999) (disch:=omega) only [vx,px,ty,↓reduceIte,seval,fx,v116,zwY,zgi]
 try exact congrArg (fun z=>some (D.int .i64 z,([]:List D),sto)) (by omega)
theorem zto {R:Type} (e:En R) (sto:List (List D)) (k:List Fr):∀ (rest pre:List TFile) (i left:Int),i=pre.length->pre.length + rest.length<=1048576->((lsum TFile.n rest:Nat):Int)<=left->left<=1048576 ->
  go T e zoT (.lp zvA::.bl 0::.sq (.clr [4,5,6,7,8,9,10,11,12,13,14,15,16,17,18,19,20,21,22,23,24,25])::k) ⟨[.d (.sl false 4 (pre.map (TFile.e false)++rest.map (TFile.e false))),.d (.int .i64 left),Z,Z,Z,.d (.int .i64 i),Z,Z,Z,Z,Z,Z,Z,Z,Z,Z,Z,Z,Z,Z,Z,Z,Z,Z,Z,Z,Z],sto⟩=bk T e k ⟨[.d (.sl false 4 (pre.map (TFile.e false)++rest.map (TFile.e false))),.d (.int .i64 (left - (lsum TFile.n rest:Nat))),Z,Z,Z,Z,Z,Z,Z,Z,Z,Z,Z,Z,Z,Z,Z,Z,Z,Z,Z,Z,Z,Z,Z,Z,Z],sto⟩:=by
 intro rest
 induction rest with
 | nil =>
  intro pre i left hi h1 h2 h3
  have hR:left - ((lsum TFile.n ([]:List TFile):Nat):Int)=left:=by simp [zcl]
  have ht:i.toNat=pre.length:=by omega
  rw [hR]
  unfold zoT
  simp (maxSteps:=9999999) (disch:=omega) only [vx,px,ty,↓reduceIte,seval,fx,go_lpc]
 | cons x rest ih =>
  intro pre i left hi h1 h2 h3
  have hR:left - ((lsum TFile.n (x::rest):Nat):Int)=left - (TFile.n x:Nat) - (lsum TFile.n rest:Nat):=by rw [zag];omega
  have ht:i.toNat=pre.length:=by omega
  rw [zag] at h2
  rw [List.length_cons] at h1
  rw [hR]
  unfold zoT
  simp (maxSteps:=9999999) (disch:=omega) only [vx,px,ty,↓reduceIte,seval,fx,go_lpc,ht,List.map_cons,ifT,zuw]
  have h:=ih (pre++[x]) (i + 1) (left - (TFile.n x:Nat)) (by simp;omega) (by simp;omega) (by omega) (by omega)
  simp only [zav] at h
  exact h
theorem ztp (xs:List TFile) (left:Int) (sto:List (List D)) (h:((xs.length + lsum TFile.n xs:Nat):Int)<=left) (h2:left<=1048576):zab T 52 [.sl false 4 (xs.map (TFile.e false)),.int .i64 left] sto=some (.int .i64 (left - ((xs.length + lsum TFile.n xs:Nat):Int)),[],sto):=by
 rw [zac T (g:=v52) rfl rfl rfl _ _ rfl]
 simp (maxSteps:=9999999) (disch:=omega) only [vx,px,ty,↓reduceIte,seval,fx,v52,zBi,go_lpc]
 have hl:=fun k=>zto (enF [.tmp 4] []) sto k xs [] 0 (left - xs.length) rfl (by simp;omega) (by omega) (by omega)
 simp only [List.map_nil,List.nil_append] at hl
 rw [hl]
 simp (maxSteps:=9999999) (disch:=omega) only [vx,px,ty,↓reduceIte,seval,fx]
 try exact congrArg (fun z=>some (D.int .i64 z,([]:List D),sto)) (by omega)
theorem znM (x:TConsole) (left:Int) (sto:List (List D)) (h:((TConsole.n x:Nat):Int)<=left) (h2:left<=1048576):zab T 20 [D.agg [D.sl false 1 (List.map D.str x.Input),D.int .i64 x.At,D.sl false 1 (List.map D.str x.Output),D.sl false 4 (List.map (TFile.e false) x.Files),D.sl false 1 (List.map D.str x.Trace)],.int .i64 left] sto=some (.int .i64 (left - (TConsole.n x:Nat)),[],sto):=by
 simp only [TConsole.n] at h ⊢
 rw [zac T (g:=v20) rfl rfl rfl _ _ rfl]
 simp (maxSteps:=9999999) (disch:=omega) only [vx,px,ty,↓reduceIte,seval,fx,v20,zAJ,ztp,zgi]
 try exact congrArg (fun z=>some (D.int .i64 z,([]:List D),sto)) (by omega)
theorem zpZ (x:TMemory) (left:Int) (sto:List (List D)) (h:((TMemory.n x:Nat):Int)<=left) (h2:left<=1048576):zab T 5 [D.agg [D.int .i64 x.Heap.Next,D.sl false 10 (List.map (TObject.e false) x.Heap.Objects),D.sl false 5 (List.map (TBinding.e false) x.Scope.Vars),D.sl false 4 (List.map (TFunction.e false) x.Scope.Functions),D.sl false 2 (List.map (TRecordType.e false) x.Scope.Types),D.sl false 1 (List.map D.str x.Console.Input),D.int .i64 x.Console.At,D.sl false 1 (List.map D.str x.Console.Output),D.sl false 4 (List.map (TFile.e false) x.Console.Files),D.sl false 1 (List.map D.str x.Console.Trace)],.int .i64 left] sto=some (.int .i64 (left - (TMemory.n x:Nat)),[],sto):=by
 simp only [TMemory.n] at h ⊢
 rw [zac T (g:=v5) rfl rfl rfl _ _ rfl]
 simp (maxSteps:=9999999) (disch:=omega) only [vx,px,ty,↓reduceIte,seval,fx,v5,v5_b,znM,zuv,ztn]
 try exact congrArg (fun z=>some (D.int .i64 z,([]:List D),sto)) (by omega)
end Go.Vx.WvZ

