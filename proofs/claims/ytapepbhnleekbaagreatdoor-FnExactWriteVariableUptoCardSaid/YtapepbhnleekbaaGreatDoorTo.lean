/-
  The laws' own functions: to.
-/
import Derived.Test.YtapepbhnleekbaaGreatDoorTypes
import Derived.Test.YtapepbhnleekbaaGreatDoorCode
set_option linter.unusedVariables false
set_option linter.unusedSimpArgs false
namespace Go.Vx.WvZ
set_option maxRecDepth 4000
set_option maxHeartbeats 4000000
theorem znN {R:Type} (e:En R) (sto:List (List D)) (k:List Fr):∀ (rest pre:List ByteArray) (i:Int),i=pre.length->pre.length + rest.length<=1048576->lsum ByteArray.size rest<=1048576 ->
  go T e zoY (.lp zwm::.bl 0::.sq (.clr [2,4,5,6,7,8,9,10,11,12,13,14,15,16,17,18,19,20])::k) ⟨[.d (.sl false 1 (pre.map D.str++rest.map D.str)),Z,Z,.d (.sl true 1 (pre.map D.str++zck (.str .empty) rest.length)),.d (.int .i64 i),Z,Z,Z,Z,Z,Z,Z,Z,Z,Z,Z,Z,Z,Z,Z,Z,Z],sto⟩=bk T e k ⟨[.d (.sl false 1 (pre.map D.str++rest.map D.str)),Z,Z,.d (.sl true 1 (pre.map D.str++rest.map D.str)),Z,Z,Z,Z,Z,Z,Z,Z,Z,Z,Z,Z,Z,Z,Z,Z,Z,Z],sto⟩:=by
 intro rest
 induction rest with
 | nil =>
  intro pre i hi h1 h2
  have ht:i.toNat=pre.length:=by omega
  unfold zoY
  simp (maxSteps:=9999999) (disch:=omega) only [vx,px,ty,↓reduceIte,seval,fx,go_lpc]
 | cons x rest ih =>
  intro pre i hi h1 h2
  have ht:i.toNat=pre.length:=by omega
  rw [zag] at h2
  rw [List.length_cons] at h1
  unfold zoY
  simp (maxSteps:=9999999) (disch:=omega) only [vx,px,ty,↓reduceIte,seval,fx,go_lpc,ht,List.map_cons,ifT]
  have h:=ih (pre++[x]) (i + 1) (by simp;omega) (by simp;omega) (by omega)
  simp only [zav] at h
  exact h
theorem zgj (xs:List ByteArray) (sto:List (List D)) (h:xs.length<=1048576) (h2:lsum ByteArray.size xs<=1048576):zab T 71 [.sl false 1 (xs.map D.str)] sto=some (.sl true 1 (xs.map D.str),[],sto):=by
 have hm:xs.length<=xs.length∧xs.length<=most:=⟨Nat.le_refl _,by unfold most;omega⟩
 rw [zac T (g:=v71) rfl rfl rfl _ _ rfl]
 simp (maxSteps:=9999999) (disch:=omega) only [vx,px,ty,↓reduceIte,seval,fx,v71,zBB,go_lpc,hm,ifT]
 have hl:=fun k=>znN (enF [.tmp 2] []) sto k xs [] 0 rfl (by simp;omega) h2
 simp only [List.map_nil,List.nil_append] at hl
 rw [hl]
 simp (maxSteps:=9999999) (disch:=omega) only [vx,px,ty,↓reduceIte,seval,fx]
theorem zhU (x:TValue) (sto:List (List D)) (h:TValue.n x<=1048576):zab T 9 [D.agg [D.int .i64 x.Kind,D.int .i64 x.Num,D.str x.Text,D.int .i64 x.Ref]] sto=some (D.agg [D.int .i64 x.Kind,D.int .i64 x.Num,D.str x.Text,D.int .i64 x.Ref],[],sto):=by
 simp only [TValue.n] at h
 rw [zac T (g:=v9) rfl rfl rfl _ _ rfl]
 simp (maxSteps:=9999999) (disch:=omega) only [vx,px,ty,↓reduceIte,seval,fx,v9,v9_b]
theorem zqa {R:Type} (e:En R) (sto:List (List D)) (k:List Fr):∀ (rest pre:List TValue) (i:Int),i=pre.length->pre.length + rest.length<=1048576->lsum TValue.n rest<=1048576 ->
  go T e zly (.lp zsW::.bl 0::.sq (.clr [2,4,5,6,7,8,9,10,11,12,13,14,15,16,17,18,19,20,21])::k) ⟨[.d (.sl false 4 (pre.map (TValue.e false)++rest.map (TValue.e false))),Z,Z,.d (.sl true 4 (pre.map (TValue.e false)++zck (.agg [.int .i64 0,.int .i64 0,.str .empty,.int .i64 0]) rest.length)),.d (.int .i64 i),Z,Z,Z,Z,Z,Z,Z,Z,Z,Z,Z,Z,Z,Z,Z,Z,Z,Z],sto⟩=bk T e k ⟨[.d (.sl false 4 (pre.map (TValue.e false)++rest.map (TValue.e false))),Z,Z,.d (.sl true 4 (pre.map (TValue.e false)++rest.map (TValue.e false))),Z,Z,Z,Z,Z,Z,Z,Z,Z,Z,Z,Z,Z,Z,Z,Z,Z,Z,Z],sto⟩:=by
 intro rest
 induction rest with
 | nil =>
  intro pre i hi h1 h2
  have ht:i.toNat=pre.length:=by omega
  unfold zly
  simp (maxSteps:=9999999) (disch:=omega) only [vx,px,ty,↓reduceIte,seval,fx,go_lpc]
 | cons x rest ih =>
  intro pre i hi h1 h2
  have ht:i.toNat=pre.length:=by omega
  rw [zag] at h2
  rw [List.length_cons] at h1
  unfold zly
  simp (maxSteps:=9999999) (disch:=omega) only [vx,px,ty,↓reduceIte,seval,fx,go_lpc,ht,List.map_cons,ifT,zhU]
  have h:=ih (pre++[x]) (i + 1) (by simp;omega) (by simp;omega) (by omega)
  simp only [zav] at h
  exact h
theorem zqb (xs:List TValue) (sto:List (List D)) (h:xs.length<=1048576) (h2:lsum TValue.n xs<=1048576):zab T 209 [.sl false 4 (xs.map (TValue.e false))] sto=some (.sl true 4 (xs.map (TValue.e false)),[],sto):=by
 have hm:xs.length<=xs.length∧xs.length<=most:=⟨Nat.le_refl _,by unfold most;omega⟩
 rw [zac T (g:=v209) rfl rfl rfl _ _ rfl]
 simp (maxSteps:=9999999) (disch:=omega) only [vx,px,ty,↓reduceIte,seval,fx,v209,zyx,go_lpc,hm,ifT]
 have hl:=fun k=>zqa (enF [.tmp 2] []) sto k xs [] 0 rfl (by simp;omega) h2
 simp only [List.map_nil,List.nil_append] at hl
 rw [hl]
 simp (maxSteps:=9999999) (disch:=omega) only [vx,px,ty,↓reduceIte,seval,fx]
theorem zqc (x:TObject) (sto:List (List D)) (h:TObject.n x<=1048576):zab T 134 [D.agg [D.int .i64 x.Id,D.int .i64 x.Kind,D.str x.Name,D.int .i64 x.Low,D.sl false 4 (List.map (TValue.e false) x.Keys),D.sl false 4 (List.map (TValue.e false) x.Vals),D.int .i64 x.Default.Kind,D.int .i64 x.Default.Num,D.str x.Default.Text,D.int .i64 x.Default.Ref]] sto=some (D.agg [D.int .i64 x.Id,D.int .i64 x.Kind,D.str x.Name,D.int .i64 x.Low,D.sl true 4 (List.map (TValue.e false) x.Keys),D.sl true 4 (List.map (TValue.e false) x.Vals),D.int .i64 x.Default.Kind,D.int .i64 x.Default.Num,D.str x.Default.Text,D.int .i64 x.Default.Ref],[],sto):=by
 simp only [TObject.n] at h
 rw [zac T (g:=v134) rfl rfl rfl _ _ rfl]
 simp (maxSteps:=9999999) (disch:=omega) only [vx,px,ty,↓reduceIte,seval,fx,v134,zxq,zhU,zqb]
theorem znO {R:Type} (e:En R) (sto:List (List D)) (k:List Fr):∀ (rest pre:List TObject) (i:Int),i=pre.length->pre.length + rest.length<=1048576->lsum TObject.n rest<=1048576 ->
  go T e zoU (.lp zwi::.bl 0::.sq (.clr [2,4,5,6,7,8,9,10,11,12,13,14,15,16,17,18,19,20,21])::k) ⟨[.d (.sl false 10 (pre.map (TObject.e false)++rest.map (TObject.e false))),Z,Z,.d (.sl true 10 (pre.map (TObject.e true)++zck (.agg [.int .i64 0,.int .i64 0,.str .empty,.int .i64 0,.sl true 4 [],.sl true 4 [],.int .i64 0,.int .i64 0,.str .empty,.int .i64 0]) rest.length)),.d (.int .i64 i),Z,Z,Z,Z,Z,Z,Z,Z,Z,Z,Z,Z,Z,Z,Z,Z,Z,Z],sto⟩=bk T e k ⟨[.d (.sl false 10 (pre.map (TObject.e false)++rest.map (TObject.e false))),Z,Z,.d (.sl true 10 (pre.map (TObject.e true)++rest.map (TObject.e true))),Z,Z,Z,Z,Z,Z,Z,Z,Z,Z,Z,Z,Z,Z,Z,Z,Z,Z,Z],sto⟩:=by
 intro rest
 induction rest with
 | nil =>
  intro pre i hi h1 h2
  have ht:i.toNat=pre.length:=by omega
  unfold zoU
  simp (maxSteps:=9999999) (disch:=omega) only [vx,px,ty,↓reduceIte,seval,fx,go_lpc]
 | cons x rest ih =>
  intro pre i hi h1 h2
  have ht:i.toNat=pre.length:=by omega
  rw [zag] at h2
  rw [List.length_cons] at h1
  unfold zoU
  simp (maxSteps:=9999999) (disch:=omega) only [vx,px,ty,↓reduceIte,seval,fx,go_lpc,ht,List.map_cons,ifT,zqc]
  have h:=ih (pre++[x]) (i + 1) (by simp;omega) (by simp;omega) (by omega)
  simp only [zav] at h
  exact h
theorem znP (xs:List TObject) (sto:List (List D)) (h:xs.length<=1048576) (h2:lsum TObject.n xs<=1048576):zab T 67 [.sl false 10 (xs.map (TObject.e false))] sto=some (.sl true 10 (xs.map (TObject.e true)),[],sto):=by
 have hm:xs.length<=xs.length∧xs.length<=most:=⟨Nat.le_refl _,by unfold most;omega⟩
 rw [zac T (g:=v67) rfl rfl rfl _ _ rfl]
 simp (maxSteps:=9999999) (disch:=omega) only [vx,px,ty,↓reduceIte,seval,fx,v67,zBx,go_lpc,hm,ifT]
 have hl:=fun k=>znO (enF [.tmp 2] []) sto k xs [] 0 rfl (by simp;omega) h2
 simp only [List.map_nil,List.nil_append] at hl
 rw [hl]
 simp (maxSteps:=9999999) (disch:=omega) only [vx,px,ty,↓reduceIte,seval,fx]
theorem zux (x:THeap) (sto:List (List D)) (h:THeap.n x<=1048576):zab T 26 [D.agg [D.int .i64 x.Next,D.sl false 10 (List.map (TObject.e false) x.Objects)]] sto=some (D.agg [D.int .i64 x.Next,D.sl true 10 (List.map (TObject.e true) x.Objects)],[],sto):=by
 simp only [THeap.n] at h
 rw [zac T (g:=v26) rfl rfl rfl _ _ rfl]
 simp (maxSteps:=9999999) (disch:=omega) only [vx,px,ty,↓reduceIte,seval,fx,v26,zAP,znP]
theorem znQ (x:TBinding) (sto:List (List D)) (h:TBinding.n x<=1048576):zab T 135 [D.agg [D.str x.Name,D.int .i64 x.Value.Kind,D.int .i64 x.Value.Num,D.str x.Value.Text,D.int .i64 x.Value.Ref]] sto=some (D.agg [D.str x.Name,D.int .i64 x.Value.Kind,D.int .i64 x.Value.Num,D.str x.Value.Text,D.int .i64 x.Value.Ref],[],sto):=by
 simp only [TBinding.n] at h
 rw [zac T (g:=v135) rfl rfl rfl _ _ rfl]
 simp (maxSteps:=9999999) (disch:=omega) only [vx,px,ty,↓reduceIte,seval,fx,v135,zxr,zhU]
theorem zmI {R:Type} (e:En R) (sto:List (List D)) (k:List Fr):∀ (rest pre:List TBinding) (i:Int),i=pre.length->pre.length + rest.length<=1048576->lsum TBinding.n rest<=1048576 ->
  go T e zoV (.lp zwj::.bl 0::.sq (.clr [2,4,5,6,7,8,9,10,11,12,13,14,15,16,17,18,19,20,21])::k) ⟨[.d (.sl false 5 (pre.map (TBinding.e false)++rest.map (TBinding.e false))),Z,Z,.d (.sl true 5 (pre.map (TBinding.e false)++zck (.agg [.str .empty,.int .i64 0,.int .i64 0,.str .empty,.int .i64 0]) rest.length)),.d (.int .i64 i),Z,Z,Z,Z,Z,Z,Z,Z,Z,Z,Z,Z,Z,Z,Z,Z,Z,Z],sto⟩=bk T e k ⟨[.d (.sl false 5 (pre.map (TBinding.e false)++rest.map (TBinding.e false))),Z,Z,.d (.sl true 5 (pre.map (TBinding.e false)++rest.map (TBinding.e false))),Z,Z,Z,Z,Z,Z,Z,Z,Z,Z,Z,Z,Z,Z,Z,Z,Z,Z,Z],sto⟩:=by
 intro rest
 induction rest with
 | nil =>
  intro pre i hi h1 h2
  have ht:i.toNat=pre.length:=by omega
  unfold zoV
  simp (maxSteps:=9999999) (disch:=omega) only [vx,px,ty,↓reduceIte,seval,fx,go_lpc]
 | cons x rest ih =>
  intro pre i hi h1 h2
  have ht:i.toNat=pre.length:=by omega
  rw [zag] at h2
  rw [List.length_cons] at h1
  unfold zoV
  simp (maxSteps:=9999999) (disch:=omega) only [vx,px,ty,↓reduceIte,seval,fx,go_lpc,ht,List.map_cons,ifT,znQ]
  have h:=ih (pre++[x]) (i + 1) (by simp;omega) (by simp;omega) (by omega)
  simp only [zav] at h
  exact h
theorem zmJ (xs:List TBinding) (sto:List (List D)) (h:xs.length<=1048576) (h2:lsum TBinding.n xs<=1048576):zab T 68 [.sl false 5 (xs.map (TBinding.e false))] sto=some (.sl true 5 (xs.map (TBinding.e false)),[],sto):=by
 have hm:xs.length<=xs.length∧xs.length<=most:=⟨Nat.le_refl _,by unfold most;omega⟩
 rw [zac T (g:=v68) rfl rfl rfl _ _ rfl]
 simp (maxSteps:=9999999) (disch:=omega) only [vx,px,ty,↓reduceIte,seval,fx,v68,zBy,go_lpc,hm,ifT]
 have hl:=fun k=>zmI (enF [.tmp 2] []) sto k xs [] 0 rfl (by simp;omega) h2
 simp only [List.map_nil,List.nil_append] at hl
 rw [hl]
 simp (maxSteps:=9999999) (disch:=omega) only [vx,px,ty,↓reduceIte,seval,fx]
theorem zmK (x:TFunction) (sto:List (List D)) (h:TFunction.n x<=1048576):zab T 136 [D.agg [D.str x.Name,D.sl false 1 (List.map D.str x.Params),D.sl false 1 (List.map D.str x.Locals),D.str x.Label]] sto=some (D.agg [D.str x.Name,D.sl true 1 (List.map D.str x.Params),D.sl true 1 (List.map D.str x.Locals),D.str x.Label],[],sto):=by
 simp only [TFunction.n] at h
 rw [zac T (g:=v136) rfl rfl rfl _ _ rfl]
 simp (maxSteps:=9999999) (disch:=omega) only [vx,px,ty,↓reduceIte,seval,fx,v136,zxs,zgj]
theorem zlF {R:Type} (e:En R) (sto:List (List D)) (k:List Fr):∀ (rest pre:List TFunction) (i:Int),i=pre.length->pre.length + rest.length<=1048576->lsum TFunction.n rest<=1048576 ->
  go T e zoW (.lp zwk::.bl 0::.sq (.clr [2,4,5,6,7,8,9,10,11,12,13,14,15,16,17,18,19,20,21])::k) ⟨[.d (.sl false 4 (pre.map (TFunction.e false)++rest.map (TFunction.e false))),Z,Z,.d (.sl true 4 (pre.map (TFunction.e true)++zck (.agg [.str .empty,.sl true 1 [],.sl true 1 [],.str .empty]) rest.length)),.d (.int .i64 i),Z,Z,Z,Z,Z,Z,Z,Z,Z,Z,Z,Z,Z,Z,Z,Z,Z,Z],sto⟩=bk T e k ⟨[.d (.sl false 4 (pre.map (TFunction.e false)++rest.map (TFunction.e false))),Z,Z,.d (.sl true 4 (pre.map (TFunction.e true)++rest.map (TFunction.e true))),Z,Z,Z,Z,Z,Z,Z,Z,Z,Z,Z,Z,Z,Z,Z,Z,Z,Z,Z],sto⟩:=by
 intro rest
 induction rest with
 | nil =>
  intro pre i hi h1 h2
  have ht:i.toNat=pre.length:=by omega
  unfold zoW
  simp (maxSteps:=9999999) (disch:=omega) only [vx,px,ty,↓reduceIte,seval,fx,go_lpc]
 | cons x rest ih =>
  intro pre i hi h1 h2
  have ht:i.toNat=pre.length:=by omega
  rw [zag] at h2
  rw [List.length_cons] at h1
  unfold zoW
  simp (maxSteps:=9999999) (disch:=omega) only [vx,px,ty,↓reduceIte,seval,fx,go_lpc,ht,List.map_cons,ifT,zmK]
  have h:=ih (pre++[x]) (i + 1) (by simp;omega) (by simp;omega) (by omega)
  simp only [zav] at h
  exact h
theorem zlG (xs:List TFunction) (sto:List (List D)) (h:xs.length<=1048576) (h2:lsum TFunction.n xs<=1048576):zab T 69 [.sl false 4 (xs.map (TFunction.e false))] sto=some (.sl true 4 (xs.map (TFunction.e true)),[],sto):=by
 have hm:xs.length<=xs.length∧xs.length<=most:=⟨Nat.le_refl _,by unfold most;omega⟩
 rw [zac T (g:=v69) rfl rfl rfl _ _ rfl]
 simp (maxSteps:=9999999) (disch:=omega) only [vx,px,ty,↓reduceIte,seval,fx,v69,zBz,go_lpc,hm,ifT]
 have hl:=fun k=>zlF (enF [.tmp 2] []) sto k xs [] 0 rfl (by simp;omega) h2
 simp only [List.map_nil,List.nil_append] at hl
 rw [hl]
 simp (maxSteps:=9999999) (disch:=omega) only [vx,px,ty,↓reduceIte,seval,fx]
theorem zki (x:TRecordType) (sto:List (List D)) (h:TRecordType.n x<=1048576):zab T 137 [D.agg [D.str x.Name,D.sl false 1 (List.map D.str x.Fields)]] sto=some (D.agg [D.str x.Name,D.sl true 1 (List.map D.str x.Fields)],[],sto):=by
 simp only [TRecordType.n] at h
 rw [zac T (g:=v137) rfl rfl rfl _ _ rfl]
 simp (maxSteps:=9999999) (disch:=omega) only [vx,px,ty,↓reduceIte,seval,fx,v137,zxt,zgj]
theorem zjE {R:Type} (e:En R) (sto:List (List D)) (k:List Fr):∀ (rest pre:List TRecordType) (i:Int),i=pre.length->pre.length + rest.length<=1048576->lsum TRecordType.n rest<=1048576 ->
  go T e zoX (.lp zwl::.bl 0::.sq (.clr [2,4,5,6,7,8,9,10,11,12,13,14,15,16,17,18,19,20,21])::k) ⟨[.d (.sl false 2 (pre.map (TRecordType.e false)++rest.map (TRecordType.e false))),Z,Z,.d (.sl true 2 (pre.map (TRecordType.e true)++zck (.agg [.str .empty,.sl true 1 []]) rest.length)),.d (.int .i64 i),Z,Z,Z,Z,Z,Z,Z,Z,Z,Z,Z,Z,Z,Z,Z,Z,Z,Z],sto⟩=bk T e k ⟨[.d (.sl false 2 (pre.map (TRecordType.e false)++rest.map (TRecordType.e false))),Z,Z,.d (.sl true 2 (pre.map (TRecordType.e true)++rest.map (TRecordType.e true))),Z,Z,Z,Z,Z,Z,Z,Z,Z,Z,Z,Z,Z,Z,Z,Z,Z,Z,Z],sto⟩:=by
 intro rest
 induction rest with
 | nil =>
  intro pre i hi h1 h2
  have ht:i.toNat=pre.length:=by omega
  unfold zoX
  simp (maxSteps:=9999999) (disch:=omega) only [vx,px,ty,↓reduceIte,seval,fx,go_lpc]
 | cons x rest ih =>
  intro pre i hi h1 h2
  have ht:i.toNat=pre.length:=by omega
  rw [zag] at h2
  rw [List.length_cons] at h1
  unfold zoX
  simp (maxSteps:=9999999) (disch:=omega) only [vx,px,ty,↓reduceIte,seval,fx,go_lpc,ht,List.map_cons,ifT,zki]
  have h:=ih (pre++[x]) (i + 1) (by simp;omega) (by simp;omega) (by omega)
  simp only [zav] at h
  exact h
theorem zjF (xs:List TRecordType) (sto:List (List D)) (h:xs.length<=1048576) (h2:lsum TRecordType.n xs<=1048576):zab T 70 [.sl false 2 (xs.map (TRecordType.e false))] sto=some (.sl true 2 (xs.map (TRecordType.e true)),[],sto):=by
 have hm:xs.length<=xs.length∧xs.length<=most:=⟨Nat.le_refl _,by unfold most;omega⟩
 rw [zac T (g:=v70) rfl rfl rfl _ _ rfl]
 simp (maxSteps:=9999999) (disch:=omega) only [vx,px,ty,↓reduceIte,seval,fx,v70,zBA,go_lpc,hm,ifT]
 have hl:=fun k=>zjE (enF [.tmp 2] []) sto k xs [] 0 rfl (by simp;omega) h2
 simp only [List.map_nil,List.nil_append] at hl
 rw [hl]
 simp (maxSteps:=9999999) (disch:=omega) only [vx,px,ty,↓reduceIte,seval,fx]
theorem ztq (x:TScope) (sto:List (List D)) (h:TScope.n x<=1048576):zab T 27 [D.agg [D.sl false 5 (List.map (TBinding.e false) x.Vars),D.sl false 4 (List.map (TFunction.e false) x.Functions),D.sl false 2 (List.map (TRecordType.e false) x.Types)]] sto=some (D.agg [D.sl true 5 (List.map (TBinding.e false) x.Vars),D.sl true 4 (List.map (TFunction.e true) x.Functions),D.sl true 2 (List.map (TRecordType.e true) x.Types)],[],sto):=by
 simp only [TScope.n] at h
 rw [zac T (g:=v27) rfl rfl rfl _ _ rfl]
 simp (maxSteps:=9999999) (disch:=omega) only [vx,px,ty,↓reduceIte,seval,fx,v27,zAQ,zmJ,zlG,zjF]
theorem zuy (x:TFile) (sto:List (List D)) (h:TFile.n x<=1048576):zab T 138 [D.agg [D.str x.Name,D.sl false 1 (List.map D.str x.Lines),D.int .i64 x.Mode,D.int .i64 x.At]] sto=some (D.agg [D.str x.Name,D.sl true 1 (List.map D.str x.Lines),D.int .i64 x.Mode,D.int .i64 x.At],[],sto):=by
 simp only [TFile.n] at h
 rw [zac T (g:=v138) rfl rfl rfl _ _ rfl]
 simp (maxSteps:=9999999) (disch:=omega) only [vx,px,ty,↓reduceIte,seval,fx,v138,zxu,zgj]
theorem ztr {R:Type} (e:En R) (sto:List (List D)) (k:List Fr):∀ (rest pre:List TFile) (i:Int),i=pre.length->pre.length + rest.length<=1048576->lsum TFile.n rest<=1048576 ->
  go T e zoZ (.lp zwn::.bl 0::.sq (.clr [2,4,5,6,7,8,9,10,11,12,13,14,15,16,17,18,19,20,21])::k) ⟨[.d (.sl false 4 (pre.map (TFile.e false)++rest.map (TFile.e false))),Z,Z,.d (.sl true 4 (pre.map (TFile.e true)++zck (.agg [.str .empty,.sl true 1 [],.int .i64 0,.int .i64 0]) rest.length)),.d (.int .i64 i),Z,Z,Z,Z,Z,Z,Z,Z,Z,Z,Z,Z,Z,Z,Z,Z,Z,Z],sto⟩=bk T e k ⟨[.d (.sl false 4 (pre.map (TFile.e false)++rest.map (TFile.e false))),Z,Z,.d (.sl true 4 (pre.map (TFile.e true)++rest.map (TFile.e true))),Z,Z,Z,Z,Z,Z,Z,Z,Z,Z,Z,Z,Z,Z,Z,Z,Z,Z,Z],sto⟩:=by
 intro rest
 induction rest with
 | nil =>
  intro pre i hi h1 h2
  have ht:i.toNat=pre.length:=by omega
  unfold zoZ
  simp (maxSteps:=9999999) (disch:=omega) only [vx,px,ty,↓reduceIte,seval,fx,go_lpc]
 | cons x rest ih =>
  intro pre i hi h1 h2
  have ht:i.toNat=pre.length:=by omega
  rw [zag] at h2
  rw [List.length_cons] at h1
  unfold zoZ
  simp (maxSteps:=9999999) (disch:=omega) only [vx,px,ty,↓reduceIte,seval,fx,go_lpc,ht,List.map_cons,ifT,zuy]
  have h:=ih (pre++[x]) (i + 1) (by simp;omega) (by simp;omega) (by omega)
  simp only [zav] at h
  exact h
theorem zts (xs:List TFile) (sto:List (List D)) (h:xs.length<=1048576) (h2:lsum TFile.n xs<=1048576):zab T 72 [.sl false 4 (xs.map (TFile.e false))] sto=some (.sl true 4 (xs.map (TFile.e true)),[],sto):=by
 have hm:xs.length<=xs.length∧xs.length<=most:=⟨Nat.le_refl _,by unfold most;omega⟩
 rw [zac T (g:=v72) rfl rfl rfl _ _ rfl]
 simp (maxSteps:=9999999) (disch:=omega) only [vx,px,ty,↓reduceIte,seval,fx,v72,zBC,go_lpc,hm,ifT]
 have hl:=fun k=>ztr (enF [.tmp 2] []) sto k xs [] 0 rfl (by simp;omega) h2
 simp only [List.map_nil,List.nil_append] at hl
 rw [hl]
 simp (maxSteps:=9999999) (disch:=omega) only [vx,px,ty,↓reduceIte,seval,fx]
theorem znR (x:TConsole) (sto:List (List D)) (h:TConsole.n x<=1048576):zab T 28 [D.agg [D.sl false 1 (List.map D.str x.Input),D.int .i64 x.At,D.sl false 1 (List.map D.str x.Output),D.sl false 4 (List.map (TFile.e false) x.Files),D.sl false 1 (List.map D.str x.Trace)]] sto=some (D.agg [D.sl true 1 (List.map D.str x.Input),D.int .i64 x.At,D.sl true 1 (List.map D.str x.Output),D.sl true 4 (List.map (TFile.e true) x.Files),D.sl true 1 (List.map D.str x.Trace)],[],sto):=by
 simp only [TConsole.n] at h
 rw [zac T (g:=v28) rfl rfl rfl _ _ rfl]
 simp (maxSteps:=9999999) (disch:=omega) only [vx,px,ty,↓reduceIte,seval,fx,v28,zAR,zts,zgj]
theorem zqd (x:TMemory) (sto:List (List D)) (h:TMemory.n x<=1048576):zab T 8 [D.agg [D.int .i64 x.Heap.Next,D.sl false 10 (List.map (TObject.e false) x.Heap.Objects),D.sl false 5 (List.map (TBinding.e false) x.Scope.Vars),D.sl false 4 (List.map (TFunction.e false) x.Scope.Functions),D.sl false 2 (List.map (TRecordType.e false) x.Scope.Types),D.sl false 1 (List.map D.str x.Console.Input),D.int .i64 x.Console.At,D.sl false 1 (List.map D.str x.Console.Output),D.sl false 4 (List.map (TFile.e false) x.Console.Files),D.sl false 1 (List.map D.str x.Console.Trace)]] sto=some (D.agg [D.int .i64 x.Heap.Next,D.sl true 10 (List.map (TObject.e true) x.Heap.Objects),D.sl true 5 (List.map (TBinding.e false) x.Scope.Vars),D.sl true 4 (List.map (TFunction.e true) x.Scope.Functions),D.sl true 2 (List.map (TRecordType.e true) x.Scope.Types),D.sl true 1 (List.map D.str x.Console.Input),D.int .i64 x.Console.At,D.sl true 1 (List.map D.str x.Console.Output),D.sl true 4 (List.map (TFile.e true) x.Console.Files),D.sl true 1 (List.map D.str x.Console.Trace)],[],sto):=by
 simp only [TMemory.n] at h
 rw [zac T (g:=v8) rfl rfl rfl _ _ rfl]
 simp (maxSteps:=9999999) (disch:=omega) only [vx,px,ty,↓reduceIte,seval,fx,v8,v8_b,znR,zux,ztq]
end Go.Vx.WvZ

