/-
  The laws' own functions: to.
-/
import Derived.Test.YtdhpbbopmlppfaaGreatTypes
import Derived.Test.YtdhpbbopmlppfaaGreatCode
set_option linter.unusedVariables false
set_option linter.unusedSimpArgs false
namespace Go.Vx.CmZ
set_option linter.unusedVariables false
set_option linter.unusedSimpArgs false
set_option maxRecDepth 4000
set_option maxHeartbeats 4000000
theorem znm {R:Type} (e:En R) (sto:List (List D)) (k:List Fr):∀ (rest pre:List ByteArray) (i:Int),i=pre.length→pre.length + rest.length≤1048576→lsum ByteArray.size rest≤1048576 →
  go T e zou (.lp zvk::.bl 0::.sq (.clr [2,4,5,6,7,8,9,10,11,12,13,14,15,16,17,18,19,20])::k) ⟨[.d (.sl false 1 (pre.map D.str++rest.map D.str)),Z,Z,.d (.sl true 1 (pre.map D.str++zcl (.str .empty) rest.length)),.d (.int .i64 i),Z,Z,Z,Z,Z,Z,Z,Z,Z,Z,Z,Z,Z,Z,Z,Z,Z],sto⟩=bk T e k ⟨[.d (.sl false 1 (pre.map D.str++rest.map D.str)),Z,Z,.d (.sl true 1 (pre.map D.str++rest.map D.str)),Z,Z,Z,Z,Z,Z,Z,Z,Z,Z,Z,Z,Z,Z,Z,Z,Z,Z],sto⟩:=by
 intro rest
 induction rest with
 | nil =>
  intro pre i hi h1 h2
  have ht:i.toNat=pre.length:=by omega
  unfold zou
  simp (maxSteps:=9999999) (disch:=omega) only [vx,px,ty,↓reduceIte,seval,fx,go_lpc]
 | cons x rest ih =>
  intro pre i hi h1 h2
  have ht:i.toNat=pre.length:=by omega
  rw [zaf] at h2
  rw [List.length_cons] at h1
  unfold zou
  simp (maxSteps:=9999999) (disch:=omega) only [vx,px,ty,↓reduceIte,seval,fx,go_lpc,ht,List.map_cons,ifT]
  have h:=ih (pre++[x]) (i + 1) (by simp;omega) (by simp;omega) (by omega)
  simp only [zas] at h
  exact h
theorem zgi (xs:List ByteArray) (sto:List (List D)) (h:xs.length≤1048576) (h2:lsum ByteArray.size xs≤1048576):zab T 48 [.sl false 1 (xs.map D.str)] sto=some (.sl true 1 (xs.map D.str),[],sto):=by
 have hm:xs.length≤xs.length∧xs.length≤most:=⟨Nat.le_refl _,by unfold most;omega⟩
 rw [zac T (g:=v48) rfl rfl rfl _ _ rfl]
 simp (maxSteps:=9999999) (disch:=omega) only [vx,px,ty,↓reduceIte,seval,fx,v48,zAD,go_lpc,hm,ifT]
 have hl:=fun k=>znm (enF [.tmp 2] []) sto k xs [] 0 rfl (by simp;omega) h2
 simp only [List.map_nil,List.nil_append] at hl
 rw [hl]
 simp (maxSteps:=9999999) (disch:=omega) only [vx,px,ty,↓reduceIte,seval,fx]
theorem zjs (x:TValue) (sto:List (List D)) (h:TValue.n x≤1048576):zab T 159 [D.agg [D.int .i64 x.Kind,D.int .i64 x.Num,D.str x.Text,D.int .i64 x.Ref]] sto=some (D.agg [D.int .i64 x.Kind,D.int .i64 x.Num,D.str x.Text,D.int .i64 x.Ref],[],sto):=by
 simp only [TValue.n] at h
 rw [zac T (g:=v159) rfl rfl rfl _ _ rfl]
 simp (maxSteps:=9999999) (disch:=omega) only [vx,px,ty,↓reduceIte,seval,fx,v159,zxu]
theorem zpt {R:Type} (e:En R) (sto:List (List D)) (k:List Fr):∀ (rest pre:List TValue) (i:Int),i=pre.length→pre.length + rest.length≤1048576→lsum TValue.n rest≤1048576 →
  go T e zkV (.lp zrQ::.bl 0::.sq (.clr [2,4,5,6,7,8,9,10,11,12,13,14,15,16,17,18,19,20,21])::k) ⟨[.d (.sl false 4 (pre.map (TValue.e false)++rest.map (TValue.e false))),Z,Z,.d (.sl true 4 (pre.map (TValue.e false)++zcl (.agg [.int .i64 0,.int .i64 0,.str .empty,.int .i64 0]) rest.length)),.d (.int .i64 i),Z,Z,Z,Z,Z,Z,Z,Z,Z,Z,Z,Z,Z,Z,Z,Z,Z,Z],sto⟩=bk T e k ⟨[.d (.sl false 4 (pre.map (TValue.e false)++rest.map (TValue.e false))),Z,Z,.d (.sl true 4 (pre.map (TValue.e false)++rest.map (TValue.e false))),Z,Z,Z,Z,Z,Z,Z,Z,Z,Z,Z,Z,Z,Z,Z,Z,Z,Z,Z],sto⟩:=by
 intro rest
 induction rest with
 | nil =>
  intro pre i hi h1 h2
  have ht:i.toNat=pre.length:=by omega
  unfold zkV
  simp (maxSteps:=9999999) (disch:=omega) only [vx,px,ty,↓reduceIte,seval,fx,go_lpc]
 | cons x rest ih =>
  intro pre i hi h1 h2
  have ht:i.toNat=pre.length:=by omega
  rw [zaf] at h2
  rw [List.length_cons] at h1
  unfold zkV
  simp (maxSteps:=9999999) (disch:=omega) only [vx,px,ty,↓reduceIte,seval,fx,go_lpc,ht,List.map_cons,ifT,zjs]
  have h:=ih (pre++[x]) (i + 1) (by simp;omega) (by simp;omega) (by omega)
  simp only [zas] at h
  exact h
theorem zpu (xs:List TValue) (sto:List (List D)) (h:xs.length≤1048576) (h2:lsum TValue.n xs≤1048576):zab T 158 [.sl false 4 (xs.map (TValue.e false))] sto=some (.sl true 4 (xs.map (TValue.e false)),[],sto):=by
 have hm:xs.length≤xs.length∧xs.length≤most:=⟨Nat.le_refl _,by unfold most;omega⟩
 rw [zac T (g:=v158) rfl rfl rfl _ _ rfl]
 simp (maxSteps:=9999999) (disch:=omega) only [vx,px,ty,↓reduceIte,seval,fx,v158,zxt,go_lpc,hm,ifT]
 have hl:=fun k=>zpt (enF [.tmp 2] []) sto k xs [] 0 rfl (by simp;omega) h2
 simp only [List.map_nil,List.nil_append] at hl
 rw [hl]
 simp (maxSteps:=9999999) (disch:=omega) only [vx,px,ty,↓reduceIte,seval,fx]
theorem zpv (x:TObject) (sto:List (List D)) (h:TObject.n x≤1048576):zab T 95 [D.agg [D.int .i64 x.Id,D.int .i64 x.Kind,D.str x.Name,D.int .i64 x.Low,D.sl false 4 (List.map (TValue.e false) x.Keys),D.sl false 4 (List.map (TValue.e false) x.Vals),D.int .i64 x.Default.Kind,D.int .i64 x.Default.Num,D.str x.Default.Text,D.int .i64 x.Default.Ref]] sto=some (D.agg [D.int .i64 x.Id,D.int .i64 x.Kind,D.str x.Name,D.int .i64 x.Low,D.sl true 4 (List.map (TValue.e false) x.Keys),D.sl true 4 (List.map (TValue.e false) x.Vals),D.int .i64 x.Default.Kind,D.int .i64 x.Default.Num,D.str x.Default.Text,D.int .i64 x.Default.Ref],[],sto):=by
 simp only [TObject.n] at h
 rw [zac T (g:=v95) rfl rfl rfl _ _ rfl]
 simp (maxSteps:=9999999) (disch:=omega) only [vx,px,ty,↓reduceIte,seval,fx,v95,zBy,zjs,zpu]
theorem znn {R:Type} (e:En R) (sto:List (List D)) (k:List Fr):∀ (rest pre:List TObject) (i:Int),i=pre.length→pre.length + rest.length≤1048576→lsum TObject.n rest≤1048576 →
  go T e zoq (.lp zvg::.bl 0::.sq (.clr [2,4,5,6,7,8,9,10,11,12,13,14,15,16,17,18,19,20,21])::k) ⟨[.d (.sl false 10 (pre.map (TObject.e false)++rest.map (TObject.e false))),Z,Z,.d (.sl true 10 (pre.map (TObject.e true)++zcl (.agg [.int .i64 0,.int .i64 0,.str .empty,.int .i64 0,.sl true 4 [],.sl true 4 [],.int .i64 0,.int .i64 0,.str .empty,.int .i64 0]) rest.length)),.d (.int .i64 i),Z,Z,Z,Z,Z,Z,Z,Z,Z,Z,Z,Z,Z,Z,Z,Z,Z,Z],sto⟩=bk T e k ⟨[.d (.sl false 10 (pre.map (TObject.e false)++rest.map (TObject.e false))),Z,Z,.d (.sl true 10 (pre.map (TObject.e true)++rest.map (TObject.e true))),Z,Z,Z,Z,Z,Z,Z,Z,Z,Z,Z,Z,Z,Z,Z,Z,Z,Z,Z],sto⟩:=by
 intro rest
 induction rest with
 | nil =>
  intro pre i hi h1 h2
  have ht:i.toNat=pre.length:=by omega
  unfold zoq
  simp (maxSteps:=9999999) (disch:=omega) only [vx,px,ty,↓reduceIte,seval,fx,go_lpc]
 | cons x rest ih =>
  intro pre i hi h1 h2
  have ht:i.toNat=pre.length:=by omega
  rw [zaf] at h2
  rw [List.length_cons] at h1
  unfold zoq
  simp (maxSteps:=9999999) (disch:=omega) only [vx,px,ty,↓reduceIte,seval,fx,go_lpc,ht,List.map_cons,ifT,zpv]
  have h:=ih (pre++[x]) (i + 1) (by simp;omega) (by simp;omega) (by omega)
  simp only [zas] at h
  exact h
theorem zno (xs:List TObject) (sto:List (List D)) (h:xs.length≤1048576) (h2:lsum TObject.n xs≤1048576):zab T 44 [.sl false 10 (xs.map (TObject.e false))] sto=some (.sl true 10 (xs.map (TObject.e true)),[],sto):=by
 have hm:xs.length≤xs.length∧xs.length≤most:=⟨Nat.le_refl _,by unfold most;omega⟩
 rw [zac T (g:=v44) rfl rfl rfl _ _ rfl]
 simp (maxSteps:=9999999) (disch:=omega) only [vx,px,ty,↓reduceIte,seval,fx,v44,zAz,go_lpc,hm,ifT]
 have hl:=fun k=>znn (enF [.tmp 2] []) sto k xs [] 0 rfl (by simp;omega) h2
 simp only [List.map_nil,List.nil_append] at hl
 rw [hl]
 simp (maxSteps:=9999999) (disch:=omega) only [vx,px,ty,↓reduceIte,seval,fx]
theorem ztR (x:THeap) (sto:List (List D)) (h:THeap.n x≤1048576):zab T 16 [D.agg [D.int .i64 x.Next,D.sl false 10 (List.map (TObject.e false) x.Objects)]] sto=some (D.agg [D.int .i64 x.Next,D.sl true 10 (List.map (TObject.e true) x.Objects)],[],sto):=by
 simp only [THeap.n] at h
 rw [zac T (g:=v16) rfl rfl rfl _ _ rfl]
 simp (maxSteps:=9999999) (disch:=omega) only [vx,px,ty,↓reduceIte,seval,fx,v16,zAa,zno]
theorem znp (x:TBinding) (sto:List (List D)) (h:TBinding.n x≤1048576):zab T 96 [D.agg [D.str x.Name,D.int .i64 x.Value.Kind,D.int .i64 x.Value.Num,D.str x.Value.Text,D.int .i64 x.Value.Ref]] sto=some (D.agg [D.str x.Name,D.int .i64 x.Value.Kind,D.int .i64 x.Value.Num,D.str x.Value.Text,D.int .i64 x.Value.Ref],[],sto):=by
 simp only [TBinding.n] at h
 rw [zac T (g:=v96) rfl rfl rfl _ _ rfl]
 simp (maxSteps:=9999999) (disch:=omega) only [vx,px,ty,↓reduceIte,seval,fx,v96,zBz,zjs]
theorem zmh {R:Type} (e:En R) (sto:List (List D)) (k:List Fr):∀ (rest pre:List TBinding) (i:Int),i=pre.length→pre.length + rest.length≤1048576→lsum TBinding.n rest≤1048576 →
  go T e zor (.lp zvh::.bl 0::.sq (.clr [2,4,5,6,7,8,9,10,11,12,13,14,15,16,17,18,19,20,21])::k) ⟨[.d (.sl false 5 (pre.map (TBinding.e false)++rest.map (TBinding.e false))),Z,Z,.d (.sl true 5 (pre.map (TBinding.e false)++zcl (.agg [.str .empty,.int .i64 0,.int .i64 0,.str .empty,.int .i64 0]) rest.length)),.d (.int .i64 i),Z,Z,Z,Z,Z,Z,Z,Z,Z,Z,Z,Z,Z,Z,Z,Z,Z,Z],sto⟩=bk T e k ⟨[.d (.sl false 5 (pre.map (TBinding.e false)++rest.map (TBinding.e false))),Z,Z,.d (.sl true 5 (pre.map (TBinding.e false)++rest.map (TBinding.e false))),Z,Z,Z,Z,Z,Z,Z,Z,Z,Z,Z,Z,Z,Z,Z,Z,Z,Z,Z],sto⟩:=by
 intro rest
 induction rest with
 | nil =>
  intro pre i hi h1 h2
  have ht:i.toNat=pre.length:=by omega
  unfold zor
  simp (maxSteps:=9999999) (disch:=omega) only [vx,px,ty,↓reduceIte,seval,fx,go_lpc]
 | cons x rest ih =>
  intro pre i hi h1 h2
  have ht:i.toNat=pre.length:=by omega
  rw [zaf] at h2
  rw [List.length_cons] at h1
  unfold zor
  simp (maxSteps:=9999999) (disch:=omega) only [vx,px,ty,↓reduceIte,seval,fx,go_lpc,ht,List.map_cons,ifT,znp]
  have h:=ih (pre++[x]) (i + 1) (by simp;omega) (by simp;omega) (by omega)
  simp only [zas] at h
  exact h
theorem zmi (xs:List TBinding) (sto:List (List D)) (h:xs.length≤1048576) (h2:lsum TBinding.n xs≤1048576):zab T 45 [.sl false 5 (xs.map (TBinding.e false))] sto=some (.sl true 5 (xs.map (TBinding.e false)),[],sto):=by
 have hm:xs.length≤xs.length∧xs.length≤most:=⟨Nat.le_refl _,by unfold most;omega⟩
 rw [zac T (g:=v45) rfl rfl rfl _ _ rfl]
 simp (maxSteps:=9999999) (disch:=omega) only [vx,px,ty,↓reduceIte,seval,fx,v45,zAA,go_lpc,hm,ifT]
 have hl:=fun k=>zmh (enF [.tmp 2] []) sto k xs [] 0 rfl (by simp;omega) h2
 simp only [List.map_nil,List.nil_append] at hl
 rw [hl]
 simp (maxSteps:=9999999) (disch:=omega) only [vx,px,ty,↓reduceIte,seval,fx]
theorem zmj (x:TFunction) (sto:List (List D)) (h:TFunction.n x≤1048576):zab T 97 [D.agg [D.str x.Name,D.sl false 1 (List.map D.str x.Params),D.sl false 1 (List.map D.str x.Locals),D.str x.Label]] sto=some (D.agg [D.str x.Name,D.sl true 1 (List.map D.str x.Params),D.sl true 1 (List.map D.str x.Locals),D.str x.Label],[],sto):=by
 simp only [TFunction.n] at h
 rw [zac T (g:=v97) rfl rfl rfl _ _ rfl]
 simp (maxSteps:=9999999) (disch:=omega) only [vx,px,ty,↓reduceIte,seval,fx,v97,zBA,zgi]
theorem zle {R:Type} (e:En R) (sto:List (List D)) (k:List Fr):∀ (rest pre:List TFunction) (i:Int),i=pre.length→pre.length + rest.length≤1048576→lsum TFunction.n rest≤1048576 →
  go T e zos (.lp zvi::.bl 0::.sq (.clr [2,4,5,6,7,8,9,10,11,12,13,14,15,16,17,18,19,20,21])::k) ⟨[.d (.sl false 4 (pre.map (TFunction.e false)++rest.map (TFunction.e false))),Z,Z,.d (.sl true 4 (pre.map (TFunction.e true)++zcl (.agg [.str .empty,.sl true 1 [],.sl true 1 [],.str .empty]) rest.length)),.d (.int .i64 i),Z,Z,Z,Z,Z,Z,Z,Z,Z,Z,Z,Z,Z,Z,Z,Z,Z,Z],sto⟩=bk T e k ⟨[.d (.sl false 4 (pre.map (TFunction.e false)++rest.map (TFunction.e false))),Z,Z,.d (.sl true 4 (pre.map (TFunction.e true)++rest.map (TFunction.e true))),Z,Z,Z,Z,Z,Z,Z,Z,Z,Z,Z,Z,Z,Z,Z,Z,Z,Z,Z],sto⟩:=by
 intro rest
 induction rest with
 | nil =>
  intro pre i hi h1 h2
  have ht:i.toNat=pre.length:=by omega
  unfold zos
  simp (maxSteps:=9999999) (disch:=omega) only [vx,px,ty,↓reduceIte,seval,fx,go_lpc]
 | cons x rest ih =>
  intro pre i hi h1 h2
  have ht:i.toNat=pre.length:=by omega
  rw [zaf] at h2
  rw [List.length_cons] at h1
  unfold zos
  simp (maxSteps:=9999999) (disch:=omega) only [vx,px,ty,↓reduceIte,seval,fx,go_lpc,ht,List.map_cons,ifT,zmj]
  have h:=ih (pre++[x]) (i + 1) (by simp;omega) (by simp;omega) (by omega)
  simp only [zas] at h
  exact h
theorem zlf (xs:List TFunction) (sto:List (List D)) (h:xs.length≤1048576) (h2:lsum TFunction.n xs≤1048576):zab T 46 [.sl false 4 (xs.map (TFunction.e false))] sto=some (.sl true 4 (xs.map (TFunction.e true)),[],sto):=by
 have hm:xs.length≤xs.length∧xs.length≤most:=⟨Nat.le_refl _,by unfold most;omega⟩
 rw [zac T (g:=v46) rfl rfl rfl _ _ rfl]
 simp (maxSteps:=9999999) (disch:=omega) only [vx,px,ty,↓reduceIte,seval,fx,v46,zAB,go_lpc,hm,ifT]
 have hl:=fun k=>zle (enF [.tmp 2] []) sto k xs [] 0 rfl (by simp;omega) h2
 simp only [List.map_nil,List.nil_append] at hl
 rw [hl]
 simp (maxSteps:=9999999) (disch:=omega) only [vx,px,ty,↓reduceIte,seval,fx]
theorem zjP (x:TRecordType) (sto:List (List D)) (h:TRecordType.n x≤1048576):zab T 98 [D.agg [D.str x.Name,D.sl false 1 (List.map D.str x.Fields)]] sto=some (D.agg [D.str x.Name,D.sl true 1 (List.map D.str x.Fields)],[],sto):=by
 simp only [TRecordType.n] at h
 rw [zac T (g:=v98) rfl rfl rfl _ _ rfl]
 simp (maxSteps:=9999999) (disch:=omega) only [vx,px,ty,↓reduceIte,seval,fx,v98,zBB,zgi]
theorem zjt {R:Type} (e:En R) (sto:List (List D)) (k:List Fr):∀ (rest pre:List TRecordType) (i:Int),i=pre.length→pre.length + rest.length≤1048576→lsum TRecordType.n rest≤1048576 →
  go T e zot (.lp zvj::.bl 0::.sq (.clr [2,4,5,6,7,8,9,10,11,12,13,14,15,16,17,18,19,20,21])::k) ⟨[.d (.sl false 2 (pre.map (TRecordType.e false)++rest.map (TRecordType.e false))),Z,Z,.d (.sl true 2 (pre.map (TRecordType.e true)++zcl (.agg [.str .empty,.sl true 1 []]) rest.length)),.d (.int .i64 i),Z,Z,Z,Z,Z,Z,Z,Z,Z,Z,Z,Z,Z,Z,Z,Z,Z,Z],sto⟩=bk T e k ⟨[.d (.sl false 2 (pre.map (TRecordType.e false)++rest.map (TRecordType.e false))),Z,Z,.d (.sl true 2 (pre.map (TRecordType.e true)++rest.map (TRecordType.e true))),Z,Z,Z,Z,Z,Z,Z,Z,Z,Z,Z,Z,Z,Z,Z,Z,Z,Z,Z],sto⟩:=by
 intro rest
 induction rest with
 | nil =>
  intro pre i hi h1 h2
  have ht:i.toNat=pre.length:=by omega
  unfold zot
  simp (maxSteps:=9999999) (disch:=omega) only [vx,px,ty,↓reduceIte,seval,fx,go_lpc]
 | cons x rest ih =>
  intro pre i hi h1 h2
  have ht:i.toNat=pre.length:=by omega
  rw [zaf] at h2
  rw [List.length_cons] at h1
  unfold zot
  simp (maxSteps:=9999999) (disch:=omega) only [vx,px,ty,↓reduceIte,seval,fx,go_lpc,ht,List.map_cons,ifT,zjP]
  have h:=ih (pre++[x]) (i + 1) (by simp;omega) (by simp;omega) (by omega)
  simp only [zas] at h
  exact h
theorem zju (xs:List TRecordType) (sto:List (List D)) (h:xs.length≤1048576) (h2:lsum TRecordType.n xs≤1048576):zab T 47 [.sl false 2 (xs.map (TRecordType.e false))] sto=some (.sl true 2 (xs.map (TRecordType.e true)),[],sto):=by
 have hm:xs.length≤xs.length∧xs.length≤most:=⟨Nat.le_refl _,by unfold most;omega⟩
 rw [zac T (g:=v47) rfl rfl rfl _ _ rfl]
 simp (maxSteps:=9999999) (disch:=omega) only [vx,px,ty,↓reduceIte,seval,fx,v47,zAC,go_lpc,hm,ifT]
 have hl:=fun k=>zjt (enF [.tmp 2] []) sto k xs [] 0 rfl (by simp;omega) h2
 simp only [List.map_nil,List.nil_append] at hl
 rw [hl]
 simp (maxSteps:=9999999) (disch:=omega) only [vx,px,ty,↓reduceIte,seval,fx]
theorem zsK (x:TScope) (sto:List (List D)) (h:TScope.n x≤1048576):zab T 17 [D.agg [D.sl false 5 (List.map (TBinding.e false) x.Vars),D.sl false 4 (List.map (TFunction.e false) x.Functions),D.sl false 2 (List.map (TRecordType.e false) x.Types)]] sto=some (D.agg [D.sl true 5 (List.map (TBinding.e false) x.Vars),D.sl true 4 (List.map (TFunction.e true) x.Functions),D.sl true 2 (List.map (TRecordType.e true) x.Types)],[],sto):=by
 simp only [TScope.n] at h
 rw [zac T (g:=v17) rfl rfl rfl _ _ rfl]
 simp (maxSteps:=9999999) (disch:=omega) only [vx,px,ty,↓reduceIte,seval,fx,v17,zAb,zmi,zlf,zju]
theorem ztS (x:TFile) (sto:List (List D)) (h:TFile.n x≤1048576):zab T 99 [D.agg [D.str x.Name,D.sl false 1 (List.map D.str x.Lines),D.int .i64 x.Mode,D.int .i64 x.At]] sto=some (D.agg [D.str x.Name,D.sl true 1 (List.map D.str x.Lines),D.int .i64 x.Mode,D.int .i64 x.At],[],sto):=by
 simp only [TFile.n] at h
 rw [zac T (g:=v99) rfl rfl rfl _ _ rfl]
 simp (maxSteps:=9999999) (disch:=omega) only [vx,px,ty,↓reduceIte,seval,fx,v99,zBC,zgi]
theorem zsL {R:Type} (e:En R) (sto:List (List D)) (k:List Fr):∀ (rest pre:List TFile) (i:Int),i=pre.length→pre.length + rest.length≤1048576→lsum TFile.n rest≤1048576 →
  go T e zov (.lp zvl::.bl 0::.sq (.clr [2,4,5,6,7,8,9,10,11,12,13,14,15,16,17,18,19,20,21])::k) ⟨[.d (.sl false 4 (pre.map (TFile.e false)++rest.map (TFile.e false))),Z,Z,.d (.sl true 4 (pre.map (TFile.e true)++zcl (.agg [.str .empty,.sl true 1 [],.int .i64 0,.int .i64 0]) rest.length)),.d (.int .i64 i),Z,Z,Z,Z,Z,Z,Z,Z,Z,Z,Z,Z,Z,Z,Z,Z,Z,Z],sto⟩=bk T e k ⟨[.d (.sl false 4 (pre.map (TFile.e false)++rest.map (TFile.e false))),Z,Z,.d (.sl true 4 (pre.map (TFile.e true)++rest.map (TFile.e true))),Z,Z,Z,Z,Z,Z,Z,Z,Z,Z,Z,Z,Z,Z,Z,Z,Z,Z,Z],sto⟩:=by
 intro rest
 induction rest with
 | nil =>
  intro pre i hi h1 h2
  have ht:i.toNat=pre.length:=by omega
  unfold zov
  simp (maxSteps:=9999999) (disch:=omega) only [vx,px,ty,↓reduceIte,seval,fx,go_lpc]
 | cons x rest ih =>
  intro pre i hi h1 h2
  have ht:i.toNat=pre.length:=by omega
  rw [zaf] at h2
  rw [List.length_cons] at h1
  unfold zov
  simp (maxSteps:=9999999) (disch:=omega) only [vx,px,ty,↓reduceIte,seval,fx,go_lpc,ht,List.map_cons,ifT,ztS]
  have h:=ih (pre++[x]) (i + 1) (by simp;omega) (by simp;omega) (by omega)
  simp only [zas] at h
  exact h
theorem zsM (xs:List TFile) (sto:List (List D)) (h:xs.length≤1048576) (h2:lsum TFile.n xs≤1048576):zab T 49 [.sl false 4 (xs.map (TFile.e false))] sto=some (.sl true 4 (xs.map (TFile.e true)),[],sto):=by
 have hm:xs.length≤xs.length∧xs.length≤most:=⟨Nat.le_refl _,by unfold most;omega⟩
 rw [zac T (g:=v49) rfl rfl rfl _ _ rfl]
 simp (maxSteps:=9999999) (disch:=omega) only [vx,px,ty,↓reduceIte,seval,fx,v49,zAE,go_lpc,hm,ifT]
 have hl:=fun k=>zsL (enF [.tmp 2] []) sto k xs [] 0 rfl (by simp;omega) h2
 simp only [List.map_nil,List.nil_append] at hl
 rw [hl]
 simp (maxSteps:=9999999) (disch:=omega) only [vx,px,ty,↓reduceIte,seval,fx]
theorem znq (x:TConsole) (sto:List (List D)) (h:TConsole.n x≤1048576):zab T 18 [D.agg [D.sl false 1 (List.map D.str x.Input),D.int .i64 x.At,D.sl false 1 (List.map D.str x.Output),D.sl false 4 (List.map (TFile.e false) x.Files),D.sl false 1 (List.map D.str x.Trace)]] sto=some (D.agg [D.sl true 1 (List.map D.str x.Input),D.int .i64 x.At,D.sl true 1 (List.map D.str x.Output),D.sl true 4 (List.map (TFile.e true) x.Files),D.sl true 1 (List.map D.str x.Trace)],[],sto):=by
 simp only [TConsole.n] at h
 rw [zac T (g:=v18) rfl rfl rfl _ _ rfl]
 simp (maxSteps:=9999999) (disch:=omega) only [vx,px,ty,↓reduceIte,seval,fx,v18,zAc,zsM,zgi]
theorem zpw (x:TMemory) (sto:List (List D)) (h:TMemory.n x≤1048576):zab T 6 [D.agg [D.int .i64 x.Heap.Next,D.sl false 10 (List.map (TObject.e false) x.Heap.Objects),D.sl false 5 (List.map (TBinding.e false) x.Scope.Vars),D.sl false 4 (List.map (TFunction.e false) x.Scope.Functions),D.sl false 2 (List.map (TRecordType.e false) x.Scope.Types),D.sl false 1 (List.map D.str x.Console.Input),D.int .i64 x.Console.At,D.sl false 1 (List.map D.str x.Console.Output),D.sl false 4 (List.map (TFile.e false) x.Console.Files),D.sl false 1 (List.map D.str x.Console.Trace)]] sto=some (D.agg [D.int .i64 x.Heap.Next,D.sl true 10 (List.map (TObject.e true) x.Heap.Objects),D.sl true 5 (List.map (TBinding.e false) x.Scope.Vars),D.sl true 4 (List.map (TFunction.e true) x.Scope.Functions),D.sl true 2 (List.map (TRecordType.e true) x.Scope.Types),D.sl true 1 (List.map D.str x.Console.Input),D.int .i64 x.Console.At,D.sl true 1 (List.map D.str x.Console.Output),D.sl true 4 (List.map (TFile.e true) x.Console.Files),D.sl true 1 (List.map D.str x.Console.Trace)],[],sto):=by
 simp only [TMemory.n] at h
 rw [zac T (g:=v6) rfl rfl rfl _ _ rfl]
 simp (maxSteps:=9999999) (disch:=omega) only [vx,px,ty,↓reduceIte,seval,fx,v6,v6_b,znq,ztR,zsK]
end Go.Vx.CmZ
