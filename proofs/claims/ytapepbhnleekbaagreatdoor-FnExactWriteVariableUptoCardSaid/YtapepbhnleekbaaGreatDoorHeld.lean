/-
  The laws' own functions: held.
-/
import Derived.Test.YtapepbhnleekbaaGreatDoorTypes
import Derived.Test.YtapepbhnleekbaaGreatDoorCode
import Derived.Test.YtapepbhnleekbaaGreatDoorMark
set_option linter.unusedVariables false
set_option linter.unusedSimpArgs false
namespace Go.Vx.WvZ
set_option maxRecDepth 4000
set_option maxHeartbeats 4000000
theorem zlN {R:Type} (e:En R) (sto:List (List D)) (k:List Fr):∀ (rest pre:List ByteArray) (i q:Int),i=pre.length->pre.length + rest.length<=34359738368->lsum ByteArray.size rest<=34359738368->0<=q->q + ((lsum (fun _=>1) rest:Nat):Int)<=1099511627776 ->
  go T e zlr (.lp zrF::.bl 0::.sq (.clr [4,5,6,7,8,9,10,11,12,13,14,15,16,17,18,19,20])::k) ⟨[.d (.sl false 1 (pre.map D.str++(mkL (fun _ k=>mt k) (fun _ k=>k + 1) rest q).map D.str)),.d (.int .i64 q),Z,Z,Z,.d (.int .i64 i),Z,Z,Z,Z,Z,Z,Z,Z,Z,Z,Z,Z,Z,Z,Z,Z],sto⟩=bk T e k ⟨[.d (.sl false 1 (pre.map D.str++(mkL (fun _ k=>mt k) (fun _ k=>k + 1) rest q).map D.str)),.d (.int .i64 (zaa (fun _ k=>k + 1) rest q)),Z,Z,Z,Z,Z,Z,Z,Z,Z,Z,Z,Z,Z,Z,Z,Z,Z,Z,Z,Z],sto⟩:=by
 intro rest
 induction rest with
 | nil =>
  intro pre i q hi h1 h2 h3 h4
  have ht:i.toNat=pre.length:=by omega
  unfold zlr
  simp (maxSteps:=9999999) (disch:=omega) only [vx,px,ty,↓reduceIte,seval,fx,go_lpc,mkL,zaa]
 | cons x rest ih =>
  intro pre i q hi h1 h2 h3 h4
  have ht:i.toNat=pre.length:=by omega
  simp only [zag] at h2 h4
  rw [List.length_cons] at h1
  have h:=ih (pre++[mt q]) (i + 1) (q + 1) (by simp;omega) (by simp;omega) (by omega) (by omega) (by omega)
  simp only [zav] at h
  simp only [mkL,zaa,List.map_cons]
  unfold zlr
  simp (maxSteps:=9999999) (disch:=omega) only [vx,px,ty,↓reduceIte,seval,fx,vxd,Nat.reduceBNe,go_lpc,ht,ifT,zbh]
  exact h
theorem zeL (xs:List ByteArray) (q:Int) (sto:List (List D)) (h:xs.length<=34359738368) (h2:lsum ByteArray.size xs<=34359738368) (h3:0<=q) (h4:q + ((lsum (fun _=>1) xs:Nat):Int)<=1099511627776):zab T 105 [.sl false 1 ((mkL (fun _ k=>mt k) (fun _ k=>k + 1) xs q).map D.str),.int .i64 q] sto=some (.int .i64 (zaa (fun _ k=>k + 1) xs q),[],sto):=by
 rw [zac T (g:=v105) rfl rfl rfl _ _ rfl]
 simp (maxSteps:=9999999) (disch:=omega) only [vx,px,ty,↓reduceIte,seval,fx,v105,zwS,go_lpc]
 have hl:=fun k=>zlN (enF [.tmp 4] []) sto k xs [] 0 q rfl (by simp;omega) h2 h3 h4
 simp only [List.map_nil,List.nil_append] at hl
 rw [hl]
 simp (maxSteps:=9999999) (disch:=omega) only [vx,px,ty,↓reduceIte,seval,fx]
theorem zmQ {R:Type} (e:En R) (sto:List (List D)) (k:List Fr):∀ (rest pre:List TValue) (i q:Int),i=pre.length->pre.length + rest.length<=34359738368->lsum TValue.n rest<=34359738368->0<=q->q + ((lsum TValue.m rest:Nat):Int)<=1099511627776 ->
  go T e zlw (.lp zsF::.bl 0::.sq (.clr [4,5,6,7,8,9,10,11,12,13,14,15,16,17,18,19,20,21,22,23,24,25,26,27,28,29,30,31,32,33,34,35,36,37,38,39,40,41,42,43,44,45,46,47,48])::k) ⟨[.d (.sl false 4 (pre.map (TValue.e false)++(mkL TValue.mk_ TValue.nx rest q).map (TValue.e false))),.d (.int .i64 q),Z,Z,Z,.d (.int .i64 i),Z,Z,Z,Z,Z,Z,Z,Z,Z,Z,Z,Z,Z,Z,Z,Z,Z,Z,Z,Z,Z,Z,Z,Z,Z,Z,Z,Z,Z,Z,Z,Z,Z,Z,Z,Z,Z,Z,Z,Z,Z,Z,Z,Z],sto⟩=bk T e k ⟨[.d (.sl false 4 (pre.map (TValue.e false)++(mkL TValue.mk_ TValue.nx rest q).map (TValue.e false))),.d (.int .i64 (zaa TValue.nx rest q)),Z,Z,Z,Z,Z,Z,Z,Z,Z,Z,Z,Z,Z,Z,Z,Z,Z,Z,Z,Z,Z,Z,Z,Z,Z,Z,Z,Z,Z,Z,Z,Z,Z,Z,Z,Z,Z,Z,Z,Z,Z,Z,Z,Z,Z,Z,Z,Z],sto⟩:=by
 intro rest
 induction rest with
 | nil =>
  intro pre i q hi h1 h2 h3 h4
  have ht:i.toNat=pre.length:=by omega
  unfold zlw
  simp (maxSteps:=9999999) (disch:=omega) only [vx,px,ty,↓reduceIte,seval,fx,go_lpc,mkL,zaa]
 | cons x rest ih =>
  intro pre i q hi h1 h2 h3 h4
  have ht:i.toNat=pre.length:=by omega
  simp only [zag,TValue.m,TValue.n] at h2 h4
  rw [List.length_cons] at h1
  have hnx:=TValue.nxm x q
  have h:=ih (pre++[TValue.mk_ x q]) (i + 1) (TValue.nx x q) (by simp;omega) (by simp;omega) (by omega) (by omega) (by simp only [hnx,TValue.m];omega)
  simp only [zav] at h
  simp only [mkL,zaa,List.map_cons]
  unfold zlw
  simp (maxSteps:=9999999) (disch:=omega) only [vx,px,ty,↓reduceIte,seval,fx,vxd,Nat.reduceBNe,go_lpc,ht,ifT,zbh,TValue.mk_]
  exact h
theorem zmR (xs:List TValue) (q:Int) (sto:List (List D)) (h:xs.length<=34359738368) (h2:lsum TValue.n xs<=34359738368) (h3:0<=q) (h4:q + ((lsum TValue.m xs:Nat):Int)<=1099511627776):zab T 184 [.sl false 4 ((mkL TValue.mk_ TValue.nx xs q).map (TValue.e false)),.int .i64 q] sto=some (.int .i64 (zaa TValue.nx xs q),[],sto):=by
 rw [zac T (g:=v184) rfl rfl rfl _ _ rfl]
 simp (maxSteps:=9999999) (disch:=omega) only [vx,px,ty,↓reduceIte,seval,fx,v184,zyl,go_lpc]
 have hl:=fun k=>zmQ (enF [.tmp 4] []) sto k xs [] 0 q rfl (by simp;omega) h2 h3 h4
 simp only [List.map_nil,List.nil_append] at hl
 rw [hl]
 simp (maxSteps:=9999999) (disch:=omega) only [vx,px,ty,↓reduceIte,seval,fx]
theorem zlO {R:Type} (e:En R) (sto:List (List D)) (k:List Fr):∀ (rest pre:List TObject) (i q:Int),i=pre.length->pre.length + rest.length<=34359738368->lsum TObject.n rest<=34359738368->0<=q->q + ((lsum TObject.m rest:Nat):Int)<=1099511627776 ->
  go T e zln (.lp zrB::.bl 0::.sq (.clr [4,5,6,7,8,9,10,11,12,13,14,15,16,17,18,19,20,21,22,23,24,25,26,27,28,29,30,31,32,33,34,35,36,37,38,39,40,41,42,43,44,45,46,47,48,49,50,51,52,53,54,55,56,57,58,59,60,61,62,63,64,65,66,67,68,69,70,71,72,73,74,75,76,77,78,79,80,81,82,83,84,85,86,87,88,89,90,91,92,93,94,95,96,97,98,99,100,101,102,103,104,105,106,107])::k) ⟨[.d (.sl false 10 (pre.map (TObject.e false)++(mkL TObject.mk_ TObject.nx rest q).map (TObject.e false))),.d (.int .i64 q),Z,Z,Z,.d (.int .i64 i),Z,Z,Z,Z,Z,Z,Z,Z,Z,Z,Z,Z,Z,Z,Z,Z,Z,Z,Z,Z,Z,Z,Z,Z,Z,Z,Z,Z,Z,Z,Z,Z,Z,Z,Z,Z,Z,Z,Z,Z,Z,Z,Z,Z,Z,Z,Z,Z,Z,Z,Z,Z,Z,Z,Z,Z,Z,Z,Z,Z,Z,Z,Z,Z,Z,Z,Z,Z,Z,Z,Z,Z,Z,Z,Z,Z,Z,Z,Z,Z,Z,Z,Z,Z,Z,Z,Z,Z,Z,Z,Z,Z,Z,Z,Z,Z,Z,Z,Z,Z,Z,Z,Z],sto⟩=bk T e k ⟨[.d (.sl false 10 (pre.map (TObject.e false)++(mkL TObject.mk_ TObject.nx rest q).map (TObject.e false))),.d (.int .i64 (zaa TObject.nx rest q)),Z,Z,Z,Z,Z,Z,Z,Z,Z,Z,Z,Z,Z,Z,Z,Z,Z,Z,Z,Z,Z,Z,Z,Z,Z,Z,Z,Z,Z,Z,Z,Z,Z,Z,Z,Z,Z,Z,Z,Z,Z,Z,Z,Z,Z,Z,Z,Z,Z,Z,Z,Z,Z,Z,Z,Z,Z,Z,Z,Z,Z,Z,Z,Z,Z,Z,Z,Z,Z,Z,Z,Z,Z,Z,Z,Z,Z,Z,Z,Z,Z,Z,Z,Z,Z,Z,Z,Z,Z,Z,Z,Z,Z,Z,Z,Z,Z,Z,Z,Z,Z,Z,Z,Z,Z,Z,Z],sto⟩:=by
 intro rest
 induction rest with
 | nil =>
  intro pre i q hi h1 h2 h3 h4
  have ht:i.toNat=pre.length:=by omega
  unfold zln
  simp (maxSteps:=9999999) (disch:=omega) only [vx,px,ty,↓reduceIte,seval,fx,go_lpc,mkL,zaa]
 | cons x rest ih =>
  intro pre i q hi h1 h2 h3 h4
  have ht:i.toNat=pre.length:=by omega
  simp only [zag,TObject.m,TObject.n,TValue.m,TValue.n] at h2 h4
  rw [List.length_cons] at h1
  have hf0:=zas TValue.nxm x.Keys (q + 1 + 1 + 1 + 1)
  have hf1:=zas TValue.nxm x.Vals (zaa TValue.nx x.Keys (q + 1 + 1 + 1 + 1))
  have hnx:=TObject.nxm x q
  have h:=ih (pre++[TObject.mk_ x q]) (i + 1) (TObject.nx x q) (by simp;omega) (by simp;omega) (by omega) (by omega) (by simp only [hnx,TObject.m,TValue.m,TValue.n];omega)
  simp only [zav] at h
  simp only [mkL,zaa,List.map_cons]
  unfold zln
  simp (maxSteps:=9999999) (disch:=omega) only [vx,px,ty,↓reduceIte,seval,fx,vxd,Nat.reduceBNe,go_lpc,ht,ifT,zmR,zbh,TObject.mk_,TValue.mk_]
  exact h
theorem zlP (xs:List TObject) (q:Int) (sto:List (List D)) (h:xs.length<=34359738368) (h2:lsum TObject.n xs<=34359738368) (h3:0<=q) (h4:q + ((lsum TObject.m xs:Nat):Int)<=1099511627776):zab T 101 [.sl false 10 ((mkL TObject.mk_ TObject.nx xs q).map (TObject.e false)),.int .i64 q] sto=some (.int .i64 (zaa TObject.nx xs q),[],sto):=by
 rw [zac T (g:=v101) rfl rfl rfl _ _ rfl]
 simp (maxSteps:=9999999) (disch:=omega) only [vx,px,ty,↓reduceIte,seval,fx,v101,zwO,go_lpc]
 have hl:=fun k=>zlO (enF [.tmp 4] []) sto k xs [] 0 q rfl (by simp;omega) h2 h3 h4
 simp only [List.map_nil,List.nil_append] at hl
 rw [hl]
 simp (maxSteps:=9999999) (disch:=omega) only [vx,px,ty,↓reduceIte,seval,fx]
theorem zqj (x:THeap) (q:Int) (sto:List (List D)) (h:THeap.n x<=34359738368) (h3:0<=q) (h4:q + ((lsum TObject.m x.Objects:Nat):Int)<=1099511627776):zab T 40 [D.agg [D.int .i64 x.Next,D.sl false 10 (List.map (TObject.e false) (mkL TObject.mk_ TObject.nx x.Objects (q)))],.int .i64 q] sto=some (.int .i64 (zaa TObject.nx x.Objects (q)),[],sto):=by
 simp only [THeap.n] at h
 have hfObjectsx:=zas TObject.nxm x.Objects (q)
 rw [zac T (g:=v40) rfl rfl rfl _ _ rfl]
 simp (maxSteps:=9999999) (disch:=omega) only [vx,px,ty,↓reduceIte,seval,fx,v40,zBa,zlP]
theorem zkm {R:Type} (e:En R) (sto:List (List D)) (k:List Fr):∀ (rest pre:List TBinding) (i q:Int),i=pre.length->pre.length + rest.length<=34359738368->lsum TBinding.n rest<=34359738368->0<=q->q + ((lsum TBinding.m rest:Nat):Int)<=1099511627776 ->
  go T e zlo (.lp zrC::.bl 0::.sq (.clr [4,5,6,7,8,9,10,11,12,13,14,15,16,17,18,19,20,21,22,23,24,25,26,27,28,29,30,31,32,33,34,35,36,37,38,39,40,41,42,43,44,45,46,47,48,49,50,51,52,53,54,55,56,57,58,59,60,61,62])::k) ⟨[.d (.sl false 5 (pre.map (TBinding.e false)++(mkL TBinding.mk_ TBinding.nx rest q).map (TBinding.e false))),.d (.int .i64 q),Z,Z,Z,.d (.int .i64 i),Z,Z,Z,Z,Z,Z,Z,Z,Z,Z,Z,Z,Z,Z,Z,Z,Z,Z,Z,Z,Z,Z,Z,Z,Z,Z,Z,Z,Z,Z,Z,Z,Z,Z,Z,Z,Z,Z,Z,Z,Z,Z,Z,Z,Z,Z,Z,Z,Z,Z,Z,Z,Z,Z,Z,Z,Z,Z],sto⟩=bk T e k ⟨[.d (.sl false 5 (pre.map (TBinding.e false)++(mkL TBinding.mk_ TBinding.nx rest q).map (TBinding.e false))),.d (.int .i64 (zaa TBinding.nx rest q)),Z,Z,Z,Z,Z,Z,Z,Z,Z,Z,Z,Z,Z,Z,Z,Z,Z,Z,Z,Z,Z,Z,Z,Z,Z,Z,Z,Z,Z,Z,Z,Z,Z,Z,Z,Z,Z,Z,Z,Z,Z,Z,Z,Z,Z,Z,Z,Z,Z,Z,Z,Z,Z,Z,Z,Z,Z,Z,Z,Z,Z,Z],sto⟩:=by
 intro rest
 induction rest with
 | nil =>
  intro pre i q hi h1 h2 h3 h4
  have ht:i.toNat=pre.length:=by omega
  unfold zlo
  simp (maxSteps:=9999999) (disch:=omega) only [vx,px,ty,↓reduceIte,seval,fx,go_lpc,mkL,zaa]
 | cons x rest ih =>
  intro pre i q hi h1 h2 h3 h4
  have ht:i.toNat=pre.length:=by omega
  simp only [zag,TBinding.m,TBinding.n,TValue.m,TValue.n] at h2 h4
  rw [List.length_cons] at h1
  have hnx:=TBinding.nxm x q
  have h:=ih (pre++[TBinding.mk_ x q]) (i + 1) (TBinding.nx x q) (by simp;omega) (by simp;omega) (by omega) (by omega) (by simp only [hnx,TBinding.m,TValue.m,TValue.n];omega)
  simp only [zav] at h
  simp only [mkL,zaa,List.map_cons]
  unfold zlo
  simp (maxSteps:=9999999) (disch:=omega) only [vx,px,ty,↓reduceIte,seval,fx,vxd,Nat.reduceBNe,go_lpc,ht,ifT,zbh,TBinding.mk_,TValue.mk_]
  exact h
theorem zkn (xs:List TBinding) (q:Int) (sto:List (List D)) (h:xs.length<=34359738368) (h2:lsum TBinding.n xs<=34359738368) (h3:0<=q) (h4:q + ((lsum TBinding.m xs:Nat):Int)<=1099511627776):zab T 102 [.sl false 5 ((mkL TBinding.mk_ TBinding.nx xs q).map (TBinding.e false)),.int .i64 q] sto=some (.int .i64 (zaa TBinding.nx xs q),[],sto):=by
 rw [zac T (g:=v102) rfl rfl rfl _ _ rfl]
 simp (maxSteps:=9999999) (disch:=omega) only [vx,px,ty,↓reduceIte,seval,fx,v102,zwP,go_lpc]
 have hl:=fun k=>zkm (enF [.tmp 4] []) sto k xs [] 0 q rfl (by simp;omega) h2 h3 h4
 simp only [List.map_nil,List.nil_append] at hl
 rw [hl]
 simp (maxSteps:=9999999) (disch:=omega) only [vx,px,ty,↓reduceIte,seval,fx]
theorem zjL {R:Type} (e:En R) (sto:List (List D)) (k:List Fr):∀ (rest pre:List TFunction) (i q:Int),i=pre.length->pre.length + rest.length<=34359738368->lsum TFunction.n rest<=34359738368->0<=q->q + ((lsum TFunction.m rest:Nat):Int)<=1099511627776 ->
  go T e zlp (.lp zrD::.bl 0::.sq (.clr [4,5,6,7,8,9,10,11,12,13,14,15,16,17,18,19,20,21,22,23,24,25,26,27,28,29,30,31,32,33,34,35,36,37,38,39,40,41,42,43,44,45,46,47,48,49])::k) ⟨[.d (.sl false 4 (pre.map (TFunction.e false)++(mkL TFunction.mk_ TFunction.nx rest q).map (TFunction.e false))),.d (.int .i64 q),Z,Z,Z,.d (.int .i64 i),Z,Z,Z,Z,Z,Z,Z,Z,Z,Z,Z,Z,Z,Z,Z,Z,Z,Z,Z,Z,Z,Z,Z,Z,Z,Z,Z,Z,Z,Z,Z,Z,Z,Z,Z,Z,Z,Z,Z,Z,Z,Z,Z,Z,Z],sto⟩=bk T e k ⟨[.d (.sl false 4 (pre.map (TFunction.e false)++(mkL TFunction.mk_ TFunction.nx rest q).map (TFunction.e false))),.d (.int .i64 (zaa TFunction.nx rest q)),Z,Z,Z,Z,Z,Z,Z,Z,Z,Z,Z,Z,Z,Z,Z,Z,Z,Z,Z,Z,Z,Z,Z,Z,Z,Z,Z,Z,Z,Z,Z,Z,Z,Z,Z,Z,Z,Z,Z,Z,Z,Z,Z,Z,Z,Z,Z,Z,Z],sto⟩:=by
 intro rest
 induction rest with
 | nil =>
  intro pre i q hi h1 h2 h3 h4
  have ht:i.toNat=pre.length:=by omega
  unfold zlp
  simp (maxSteps:=9999999) (disch:=omega) only [vx,px,ty,↓reduceIte,seval,fx,go_lpc,mkL,zaa]
 | cons x rest ih =>
  intro pre i q hi h1 h2 h3 h4
  have ht:i.toNat=pre.length:=by omega
  simp only [zag,TFunction.m,TFunction.n] at h2 h4
  rw [List.length_cons] at h1
  have hf0:=zat x.Params (q + 1)
  have hf1:=zat x.Locals (zaa (fun _ k=>k + 1) x.Params (q + 1))
  have hnx:=TFunction.nxm x q
  have h:=ih (pre++[TFunction.mk_ x q]) (i + 1) (TFunction.nx x q) (by simp;omega) (by simp;omega) (by omega) (by omega) (by simp only [hnx,TFunction.m];omega)
  simp only [zav] at h
  simp only [mkL,zaa,List.map_cons]
  unfold zlp
  simp (maxSteps:=9999999) (disch:=omega) only [vx,px,ty,↓reduceIte,seval,fx,vxd,Nat.reduceBNe,go_lpc,ht,ifT,zeL,zbh,TFunction.mk_]
  exact h
theorem zjM (xs:List TFunction) (q:Int) (sto:List (List D)) (h:xs.length<=34359738368) (h2:lsum TFunction.n xs<=34359738368) (h3:0<=q) (h4:q + ((lsum TFunction.m xs:Nat):Int)<=1099511627776):zab T 103 [.sl false 4 ((mkL TFunction.mk_ TFunction.nx xs q).map (TFunction.e false)),.int .i64 q] sto=some (.int .i64 (zaa TFunction.nx xs q),[],sto):=by
 rw [zac T (g:=v103) rfl rfl rfl _ _ rfl]
 simp (maxSteps:=9999999) (disch:=omega) only [vx,px,ty,↓reduceIte,seval,fx,v103,zwQ,go_lpc]
 have hl:=fun k=>zjL (enF [.tmp 4] []) sto k xs [] 0 q rfl (by simp;omega) h2 h3 h4
 simp only [List.map_nil,List.nil_append] at hl
 rw [hl]
 simp (maxSteps:=9999999) (disch:=omega) only [vx,px,ty,↓reduceIte,seval,fx]
theorem ziu {R:Type} (e:En R) (sto:List (List D)) (k:List Fr):∀ (rest pre:List TRecordType) (i q:Int),i=pre.length->pre.length + rest.length<=34359738368->lsum TRecordType.n rest<=34359738368->0<=q->q + ((lsum TRecordType.m rest:Nat):Int)<=1099511627776 ->
  go T e zlq (.lp zrE::.bl 0::.sq (.clr [4,5,6,7,8,9,10,11,12,13,14,15,16,17,18,19,20,21,22,23,24,25,26,27,28,29,30])::k) ⟨[.d (.sl false 2 (pre.map (TRecordType.e false)++(mkL TRecordType.mk_ TRecordType.nx rest q).map (TRecordType.e false))),.d (.int .i64 q),Z,Z,Z,.d (.int .i64 i),Z,Z,Z,Z,Z,Z,Z,Z,Z,Z,Z,Z,Z,Z,Z,Z,Z,Z,Z,Z,Z,Z,Z,Z,Z,Z],sto⟩=bk T e k ⟨[.d (.sl false 2 (pre.map (TRecordType.e false)++(mkL TRecordType.mk_ TRecordType.nx rest q).map (TRecordType.e false))),.d (.int .i64 (zaa TRecordType.nx rest q)),Z,Z,Z,Z,Z,Z,Z,Z,Z,Z,Z,Z,Z,Z,Z,Z,Z,Z,Z,Z,Z,Z,Z,Z,Z,Z,Z,Z,Z,Z],sto⟩:=by
 intro rest
 induction rest with
 | nil =>
  intro pre i q hi h1 h2 h3 h4
  have ht:i.toNat=pre.length:=by omega
  unfold zlq
  simp (maxSteps:=9999999) (disch:=omega) only [vx,px,ty,↓reduceIte,seval,fx,go_lpc,mkL,zaa]
 | cons x rest ih =>
  intro pre i q hi h1 h2 h3 h4
  have ht:i.toNat=pre.length:=by omega
  simp only [zag,TRecordType.m,TRecordType.n] at h2 h4
  rw [List.length_cons] at h1
  have hf0:=zat x.Fields (q + 1)
  have hnx:=TRecordType.nxm x q
  have h:=ih (pre++[TRecordType.mk_ x q]) (i + 1) (TRecordType.nx x q) (by simp;omega) (by simp;omega) (by omega) (by omega) (by simp only [hnx,TRecordType.m];omega)
  simp only [zav] at h
  simp only [mkL,zaa,List.map_cons]
  unfold zlq
  simp (maxSteps:=9999999) (disch:=omega) only [vx,px,ty,↓reduceIte,seval,fx,vxd,Nat.reduceBNe,go_lpc,ht,ifT,zeL,zbh,TRecordType.mk_]
  exact h
theorem ziv (xs:List TRecordType) (q:Int) (sto:List (List D)) (h:xs.length<=34359738368) (h2:lsum TRecordType.n xs<=34359738368) (h3:0<=q) (h4:q + ((lsum TRecordType.m xs:Nat):Int)<=1099511627776):zab T 104 [.sl false 2 ((mkL TRecordType.mk_ TRecordType.nx xs q).map (TRecordType.e false)),.int .i64 q] sto=some (.int .i64 (zaa TRecordType.nx xs q),[],sto):=by
 rw [zac T (g:=v104) rfl rfl rfl _ _ rfl]
 simp (maxSteps:=9999999) (disch:=omega) only [vx,px,ty,↓reduceIte,seval,fx,v104,zwR,go_lpc]
 have hl:=fun k=>ziu (enF [.tmp 4] []) sto k xs [] 0 q rfl (by simp;omega) h2 h3 h4
 simp only [List.map_nil,List.nil_append] at hl
 rw [hl]
 simp (maxSteps:=9999999) (disch:=omega) only [vx,px,ty,↓reduceIte,seval,fx]
theorem zoa (x:TScope) (q:Int) (sto:List (List D)) (h:TScope.n x<=34359738368) (h3:0<=q) (h4:q + ((lsum TBinding.m x.Vars + lsum TFunction.m x.Functions + lsum TRecordType.m x.Types:Nat):Int)<=1099511627776):zab T 41 [D.agg [D.sl false 5 (List.map (TBinding.e false) (mkL TBinding.mk_ TBinding.nx x.Vars (q))),D.sl false 4 (List.map (TFunction.e false) (mkL TFunction.mk_ TFunction.nx x.Functions (zaa TBinding.nx x.Vars (q)))),D.sl false 2 (List.map (TRecordType.e false) (mkL TRecordType.mk_ TRecordType.nx x.Types (zaa TFunction.nx x.Functions (zaa TBinding.nx x.Vars (q)))))],.int .i64 q] sto=some (.int .i64 (zaa TRecordType.nx x.Types (zaa TFunction.nx x.Functions (zaa TBinding.nx x.Vars (q)))),[],sto):=by
 simp only [TScope.n] at h
 have hfVarsx:=zas TBinding.nxm x.Vars (q)
 have hfFunctionsx:=zas TFunction.nxm x.Functions (zaa TBinding.nx x.Vars (q))
 have hfTypesx:=zas TRecordType.nxm x.Types (zaa TFunction.nx x.Functions (zaa TBinding.nx x.Vars (q)))
 rw [zac T (g:=v41) rfl rfl rfl _ _ rfl]
 simp (maxSteps:=9999999) (disch:=omega) only [vx,px,ty,↓reduceIte,seval,fx,v41,zBb,zkn,zjM,ziv]
theorem zob {R:Type} (e:En R) (sto:List (List D)) (k:List Fr):∀ (rest pre:List TFile) (i q:Int),i=pre.length->pre.length + rest.length<=34359738368->lsum TFile.n rest<=34359738368->0<=q->q + ((lsum TFile.m rest:Nat):Int)<=1099511627776 ->
  go T e zls (.lp zrG::.bl 0::.sq (.clr [4,5,6,7,8,9,10,11,12,13,14,15,16,17,18,19,20,21,22,23,24,25,26,27,28,29,30,31,32,33,34,35,36,37,38,39,40,41,42,43,44,45,46,47,48])::k) ⟨[.d (.sl false 4 (pre.map (TFile.e false)++(mkL TFile.mk_ TFile.nx rest q).map (TFile.e false))),.d (.int .i64 q),Z,Z,Z,.d (.int .i64 i),Z,Z,Z,Z,Z,Z,Z,Z,Z,Z,Z,Z,Z,Z,Z,Z,Z,Z,Z,Z,Z,Z,Z,Z,Z,Z,Z,Z,Z,Z,Z,Z,Z,Z,Z,Z,Z,Z,Z,Z,Z,Z,Z,Z],sto⟩=bk T e k ⟨[.d (.sl false 4 (pre.map (TFile.e false)++(mkL TFile.mk_ TFile.nx rest q).map (TFile.e false))),.d (.int .i64 (zaa TFile.nx rest q)),Z,Z,Z,Z,Z,Z,Z,Z,Z,Z,Z,Z,Z,Z,Z,Z,Z,Z,Z,Z,Z,Z,Z,Z,Z,Z,Z,Z,Z,Z,Z,Z,Z,Z,Z,Z,Z,Z,Z,Z,Z,Z,Z,Z,Z,Z,Z,Z],sto⟩:=by
 intro rest
 induction rest with
 | nil =>
  intro pre i q hi h1 h2 h3 h4
  have ht:i.toNat=pre.length:=by omega
  unfold zls
  simp (maxSteps:=9999999) (disch:=omega) only [vx,px,ty,↓reduceIte,seval,fx,go_lpc,mkL,zaa]
 | cons x rest ih =>
  intro pre i q hi h1 h2 h3 h4
  have ht:i.toNat=pre.length:=by omega
  simp only [zag,TFile.m,TFile.n] at h2 h4
  rw [List.length_cons] at h1
  have hf0:=zat x.Lines (q + 1)
  have hnx:=TFile.nxm x q
  have h:=ih (pre++[TFile.mk_ x q]) (i + 1) (TFile.nx x q) (by simp;omega) (by simp;omega) (by omega) (by omega) (by simp only [hnx,TFile.m];omega)
  simp only [zav] at h
  simp only [mkL,zaa,List.map_cons]
  unfold zls
  simp (maxSteps:=9999999) (disch:=omega) only [vx,px,ty,↓reduceIte,seval,fx,vxd,Nat.reduceBNe,go_lpc,ht,ifT,zeL,zbh,TFile.mk_]
  exact h
theorem zoc (xs:List TFile) (q:Int) (sto:List (List D)) (h:xs.length<=34359738368) (h2:lsum TFile.n xs<=34359738368) (h3:0<=q) (h4:q + ((lsum TFile.m xs:Nat):Int)<=1099511627776):zab T 106 [.sl false 4 ((mkL TFile.mk_ TFile.nx xs q).map (TFile.e false)),.int .i64 q] sto=some (.int .i64 (zaa TFile.nx xs q),[],sto):=by
 rw [zac T (g:=v106) rfl rfl rfl _ _ rfl]
 simp (maxSteps:=9999999) (disch:=omega) only [vx,px,ty,↓reduceIte,seval,fx,v106,zwT,go_lpc]
 have hl:=fun k=>zob (enF [.tmp 4] []) sto k xs [] 0 q rfl (by simp;omega) h2 h3 h4
 simp only [List.map_nil,List.nil_append] at hl
 rw [hl]
 simp (maxSteps:=9999999) (disch:=omega) only [vx,px,ty,↓reduceIte,seval,fx]
theorem zlQ (x:TConsole) (q:Int) (sto:List (List D)) (h:TConsole.n x<=34359738368) (h3:0<=q) (h4:q + ((lsum (fun _=>1) x.Input + lsum (fun _=>1) x.Output + lsum TFile.m x.Files + lsum (fun _=>1) x.Trace:Nat):Int)<=1099511627776):zab T 42 [D.agg [D.sl false 1 (List.map D.str (mkL (fun _ k=>mt k) (fun _ k=>k + 1) x.Input (q))),D.int .i64 x.At,D.sl false 1 (List.map D.str (mkL (fun _ k=>mt k) (fun _ k=>k + 1) x.Output (zaa (fun _ k=>k + 1) x.Input (q)))),D.sl false 4 (List.map (TFile.e false) (mkL TFile.mk_ TFile.nx x.Files (zaa (fun _ k=>k + 1) x.Output (zaa (fun _ k=>k + 1) x.Input (q))))),D.sl false 1 (List.map D.str (mkL (fun _ k=>mt k) (fun _ k=>k + 1) x.Trace (zaa TFile.nx x.Files (zaa (fun _ k=>k + 1) x.Output (zaa (fun _ k=>k + 1) x.Input (q))))))],.int .i64 q] sto=some (.int .i64 (zaa (fun _ k=>k + 1) x.Trace (zaa TFile.nx x.Files (zaa (fun _ k=>k + 1) x.Output (zaa (fun _ k=>k + 1) x.Input (q))))),[],sto):=by
 simp only [TConsole.n] at h
 have hfInputx:=zat x.Input (q)
 have hfOutputx:=zat x.Output (zaa (fun _ k=>k + 1) x.Input (q))
 have hfFilesx:=zas TFile.nxm x.Files (zaa (fun _ k=>k + 1) x.Output (zaa (fun _ k=>k + 1) x.Input (q)))
 have hfTracex:=zat x.Trace (zaa TFile.nx x.Files (zaa (fun _ k=>k + 1) x.Output (zaa (fun _ k=>k + 1) x.Input (q))))
 rw [zac T (g:=v42) rfl rfl rfl _ _ rfl]
 simp (maxSteps:=9999999) (disch:=omega) only [vx,px,ty,↓reduceIte,seval,fx,v42,zBc,zoc,zeL]
theorem zmS (x:TMemory) (q:Int) (sto:List (List D)) (h:TMemory.n x<=34359738368) (h3:0<=q) (h4:q + ((lsum TObject.m x.Heap.Objects + lsum TBinding.m x.Scope.Vars + lsum TFunction.m x.Scope.Functions + lsum TRecordType.m x.Scope.Types + lsum (fun _=>1) x.Console.Input + lsum (fun _=>1) x.Console.Output + lsum TFile.m x.Console.Files + lsum (fun _=>1) x.Console.Trace:Nat):Int)<=1099511627776):zab T 13 [D.agg [D.int .i64 x.Heap.Next,D.sl false 10 (List.map (TObject.e false) (mkL TObject.mk_ TObject.nx x.Heap.Objects (q))),D.sl false 5 (List.map (TBinding.e false) (mkL TBinding.mk_ TBinding.nx x.Scope.Vars (zaa TObject.nx x.Heap.Objects (q)))),D.sl false 4 (List.map (TFunction.e false) (mkL TFunction.mk_ TFunction.nx x.Scope.Functions (zaa TBinding.nx x.Scope.Vars (zaa TObject.nx x.Heap.Objects (q))))),D.sl false 2 (List.map (TRecordType.e false) (mkL TRecordType.mk_ TRecordType.nx x.Scope.Types (zaa TFunction.nx x.Scope.Functions (zaa TBinding.nx x.Scope.Vars (zaa TObject.nx x.Heap.Objects (q)))))),D.sl false 1 (List.map D.str (mkL (fun _ k=>mt k) (fun _ k=>k + 1) x.Console.Input (zaa TRecordType.nx x.Scope.Types (zaa TFunction.nx x.Scope.Functions (zaa TBinding.nx x.Scope.Vars (zaa TObject.nx x.Heap.Objects (q))))))),D.int .i64 x.Console.At,D.sl false 1 (List.map D.str (mkL (fun _ k=>mt k) (fun _ k=>k + 1) x.Console.Output (zaa (fun _ k=>k + 1) x.Console.Input (zaa TRecordType.nx x.Scope.Types (zaa TFunction.nx x.Scope.Functions (zaa TBinding.nx x.Scope.Vars (zaa TObject.nx x.Heap.Objects (q)))))))),D.sl false 4 (List.map (TFile.e false) (mkL TFile.mk_ TFile.nx x.Console.Files (zaa (fun _ k=>k + 1) x.Console.Output (zaa (fun _ k=>k + 1) x.Console.Input (zaa TRecordType.nx x.Scope.Types (zaa TFunction.nx x.Scope.Functions (zaa TBinding.nx x.Scope.Vars (zaa TObject.nx x.Heap.Objects (q))))))))),D.sl false 1 (List.map D.str (mkL (fun _ k=>mt k) (fun _ k=>k + 1) x.Console.Trace (zaa TFile.nx x.Console.Files (zaa (fun _ k=>k + 1) x.Console.Output (zaa (fun _ k=>k + 1) x.Console.Input (zaa TRecordType.nx x.Scope.Types (zaa TFunction.nx x.Scope.Functions (zaa TBinding.nx x.Scope.Vars (zaa TObject.nx x.Heap.Objects (q))))))))))],.int .i64 q] sto=some (.int .i64 (zaa (fun _ k=>k + 1) x.Console.Trace (zaa TFile.nx x.Console.Files (zaa (fun _ k=>k + 1) x.Console.Output (zaa (fun _ k=>k + 1) x.Console.Input (zaa TRecordType.nx x.Scope.Types (zaa TFunction.nx x.Scope.Functions (zaa TBinding.nx x.Scope.Vars (zaa TObject.nx x.Heap.Objects (q))))))))),[],sto):=by
 simp only [TMemory.n] at h
 have hfObjectsx_Heap:=zas TObject.nxm x.Heap.Objects (q)
 have hfVarsx_Scope:=zas TBinding.nxm x.Scope.Vars (zaa TObject.nx x.Heap.Objects (q))
 have hfFunctionsx_Scope:=zas TFunction.nxm x.Scope.Functions (zaa TBinding.nx x.Scope.Vars (zaa TObject.nx x.Heap.Objects (q)))
 have hfTypesx_Scope:=zas TRecordType.nxm x.Scope.Types (zaa TFunction.nx x.Scope.Functions (zaa TBinding.nx x.Scope.Vars (zaa TObject.nx x.Heap.Objects (q))))
 have hfInputx_Console:=zat x.Console.Input (zaa TRecordType.nx x.Scope.Types (zaa TFunction.nx x.Scope.Functions (zaa TBinding.nx x.Scope.Vars (zaa TObject.nx x.Heap.Objects (q)))))
 have hfOutputx_Console:=zat x.Console.Output (zaa (fun _ k=>k + 1) x.Console.Input (zaa TRecordType.nx x.Scope.Types (zaa TFunction.nx x.Scope.Functions (zaa TBinding.nx x.Scope.Vars (zaa TObject.nx x.Heap.Objects (q))))))
 have hfFilesx_Console:=zas TFile.nxm x.Console.Files (zaa (fun _ k=>k + 1) x.Console.Output (zaa (fun _ k=>k + 1) x.Console.Input (zaa TRecordType.nx x.Scope.Types (zaa TFunction.nx x.Scope.Functions (zaa TBinding.nx x.Scope.Vars (zaa TObject.nx x.Heap.Objects (q)))))))
 have hfTracex_Console:=zat x.Console.Trace (zaa TFile.nx x.Console.Files (zaa (fun _ k=>k + 1) x.Console.Output (zaa (fun _ k=>k + 1) x.Console.Input (zaa TRecordType.nx x.Scope.Types (zaa TFunction.nx x.Scope.Functions (zaa TBinding.nx x.Scope.Vars (zaa TObject.nx x.Heap.Objects (q))))))))
 rw [zac T (g:=v13) rfl rfl rfl _ _ rfl]
 simp (maxSteps:=9999999) (disch:=omega) only [vx,px,ty,↓reduceIte,seval,fx,v13,zAG,zlQ,zqj,zoa]
end Go.Vx.WvZ

