/-
  The laws' own functions: held.
-/
import Derived.Test.YtnaaflejkfaiaaaGreatTypes
import Derived.Test.YtnaaflejkfaiaaaGreatCode
import Derived.Test.YtnaaflejkfaiaaaGreatMark
set_option linter.unusedVariables false
set_option linter.unusedSimpArgs false
namespace Go.Vx.RmZ
set_option maxRecDepth 4000
set_option maxHeartbeats 4000000
theorem zmW {R:Type} (e:En R) (sto:List (List D)) (k:List Fr):∀ (rest pre:List TValue) (i q:Int),i=pre.length->pre.length + rest.length<=34359738368->lsum TValue.n rest<=34359738368->0<=q->q + ((lsum TValue.m rest:Nat):Int)<=1099511627776 ->
  go T e zlG (.lp zrV::.bl 0::.sq (.clr [4,5,6,7,8,9,10,11,12,13,14,15,16,17,18,19,20,21,22,23,24,25,26,27,28,29,30,31,32,33,34,35,36,37,38,39,40,41,42,43,44,45,46,47,48])::k) ⟨[.d (.sl false 4 (pre.map (TValue.e false)++(mkL TValue.mk_ TValue.nx rest q).map (TValue.e false))),.d (.int .i64 q),Z,Z,Z,.d (.int .i64 i),Z,Z,Z,Z,Z,Z,Z,Z,Z,Z,Z,Z,Z,Z,Z,Z,Z,Z,Z,Z,Z,Z,Z,Z,Z,Z,Z,Z,Z,Z,Z,Z,Z,Z,Z,Z,Z,Z,Z,Z,Z,Z,Z,Z],sto⟩=bk T e k ⟨[.d (.sl false 4 (pre.map (TValue.e false)++(mkL TValue.mk_ TValue.nx rest q).map (TValue.e false))),.d (.int .i64 (zab TValue.nx rest q)),Z,Z,Z,Z,Z,Z,Z,Z,Z,Z,Z,Z,Z,Z,Z,Z,Z,Z,Z,Z,Z,Z,Z,Z,Z,Z,Z,Z,Z,Z,Z,Z,Z,Z,Z,Z,Z,Z,Z,Z,Z,Z,Z,Z,Z,Z,Z,Z],sto⟩:=by
 intro rest
 induction rest with
 | nil =>
  intro pre i q hi h1 h2 h3 h4
  have ht:i.toNat=pre.length:=by omega
  unfold zlG
  simp (maxSteps:=9999999) (disch:=omega) only [vx,px,ty,↓reduceIte,seval,fx,go_lpc,mkL,zab]
 | cons x rest ih =>
  intro pre i q hi h1 h2 h3 h4
  have ht:i.toNat=pre.length:=by omega
  simp only [zae,TValue.m,TValue.n] at h2 h4
  rw [List.length_cons] at h1
  have hnx:=TValue.nxm x q
  have h:=ih (pre++[TValue.mk_ x q]) (i + 1) (TValue.nx x q) (by simp;omega) (by simp;omega) (by omega) (by omega) (by simp only [hnx,TValue.m];omega)
  simp only [zaG] at h
  simp only [mkL,zab,List.map_cons]
  unfold zlG
  simp (maxSteps:=9999999) (disch:=omega) only [vx,px,ty,↓reduceIte,seval,fx,vxd,Nat.reduceBNe,go_lpc,ht,ifT,zcU,TValue.mk_]
  exact h
theorem zhj (xs:List TValue) (q:Int) (sto:List (List D)) (h:xs.length<=34359738368) (h2:lsum TValue.n xs<=34359738368) (h3:0<=q) (h4:q + ((lsum TValue.m xs:Nat):Int)<=1099511627776):zaa T 143 [.sl false 4 ((mkL TValue.mk_ TValue.nx xs q).map (TValue.e false)),.int .i64 q] sto=some (.int .i64 (zab TValue.nx xs q),[],sto):=by
 rw [zaf T (g:=v143) rfl rfl rfl _ _ rfl]
 simp (maxSteps:=9999999) (disch:=omega) only [vx,px,ty,↓reduceIte,seval,fx,v143,zwM,go_lpc]
 have hl:=fun k=>zmW (enF [.tmp 4] []) sto k xs [] 0 q rfl (by simp;omega) h2 h3 h4
 simp only [List.map_nil,List.nil_append] at hl
 rw [hl]
 simp (maxSteps:=9999999) (disch:=omega) only [vx,px,ty,↓reduceIte,seval,fx]
theorem zlW {R:Type} (e:En R) (sto:List (List D)) (k:List Fr):∀ (rest pre:List TObject) (i q:Int),i=pre.length->pre.length + rest.length<=34359738368->lsum TObject.n rest<=34359738368->0<=q->q + ((lsum TObject.m rest:Nat):Int)<=1099511627776 ->
  go T e zly (.lp zrn::.bl 0::.sq (.clr [4,5,6,7,8,9,10,11,12,13,14,15,16,17,18,19,20,21,22,23,24,25,26,27,28,29,30,31,32,33,34,35,36,37,38,39,40,41,42,43,44,45,46,47,48,49,50,51,52,53,54,55,56,57,58,59,60,61,62,63,64,65,66,67,68,69,70,71,72,73,74,75,76,77,78,79,80,81,82,83,84,85,86,87,88,89,90,91,92,93,94,95,96,97,98,99,100,101,102,103,104,105,106,107])::k) ⟨[.d (.sl false 10 (pre.map (TObject.e false)++(mkL TObject.mk_ TObject.nx rest q).map (TObject.e false))),.d (.int .i64 q),Z,Z,Z,.d (.int .i64 i),Z,Z,Z,Z,Z,Z,Z,Z,Z,Z,Z,Z,Z,Z,Z,Z,Z,Z,Z,Z,Z,Z,Z,Z,Z,Z,Z,Z,Z,Z,Z,Z,Z,Z,Z,Z,Z,Z,Z,Z,Z,Z,Z,Z,Z,Z,Z,Z,Z,Z,Z,Z,Z,Z,Z,Z,Z,Z,Z,Z,Z,Z,Z,Z,Z,Z,Z,Z,Z,Z,Z,Z,Z,Z,Z,Z,Z,Z,Z,Z,Z,Z,Z,Z,Z,Z,Z,Z,Z,Z,Z,Z,Z,Z,Z,Z,Z,Z,Z,Z,Z,Z,Z],sto⟩=bk T e k ⟨[.d (.sl false 10 (pre.map (TObject.e false)++(mkL TObject.mk_ TObject.nx rest q).map (TObject.e false))),.d (.int .i64 (zab TObject.nx rest q)),Z,Z,Z,Z,Z,Z,Z,Z,Z,Z,Z,Z,Z,Z,Z,Z,Z,Z,Z,Z,Z,Z,Z,Z,Z,Z,Z,Z,Z,Z,Z,Z,Z,Z,Z,Z,Z,Z,Z,Z,Z,Z,Z,Z,Z,Z,Z,Z,Z,Z,Z,Z,Z,Z,Z,Z,Z,Z,Z,Z,Z,Z,Z,Z,Z,Z,Z,Z,Z,Z,Z,Z,Z,Z,Z,Z,Z,Z,Z,Z,Z,Z,Z,Z,Z,Z,Z,Z,Z,Z,Z,Z,Z,Z,Z,Z,Z,Z,Z,Z,Z,Z,Z,Z,Z,Z,Z],sto⟩:=by
 intro rest
 induction rest with
 | nil =>
  intro pre i q hi h1 h2 h3 h4
  have ht:i.toNat=pre.length:=by omega
  unfold zly
  simp (maxSteps:=9999999) (disch:=omega) only [vx,px,ty,↓reduceIte,seval,fx,go_lpc,mkL,zab]
 | cons x rest ih =>
  intro pre i q hi h1 h2 h3 h4
  have ht:i.toNat=pre.length:=by omega
  simp only [zae,TObject.m,TObject.n,TValue.m,TValue.n] at h2 h4
  rw [List.length_cons] at h1
  have hf0:=zao TValue.nxm x.Keys (q + 1 + 1 + 1 + 1)
  have hf1:=zao TValue.nxm x.Vals (zab TValue.nx x.Keys (q + 1 + 1 + 1 + 1))
  have hnx:=TObject.nxm x q
  have h:=ih (pre++[TObject.mk_ x q]) (i + 1) (TObject.nx x q) (by simp;omega) (by simp;omega) (by omega) (by omega) (by simp only [hnx,TObject.m,TValue.m,TValue.n];omega)
  simp only [zaG] at h
  simp only [mkL,zab,List.map_cons]
  unfold zly
  simp (maxSteps:=9999999) (disch:=omega) only [vx,px,ty,↓reduceIte,seval,fx,vxd,Nat.reduceBNe,go_lpc,ht,ifT,zhj,zcU,TObject.mk_,TValue.mk_]
  exact h
theorem zlX (xs:List TObject) (q:Int) (sto:List (List D)) (h:xs.length<=34359738368) (h2:lsum TObject.n xs<=34359738368) (h3:0<=q) (h4:q + ((lsum TObject.m xs:Nat):Int)<=1099511627776):zaa T 110 [.sl false 10 ((mkL TObject.mk_ TObject.nx xs q).map (TObject.e false)),.int .i64 q] sto=some (.int .i64 (zab TObject.nx xs q),[],sto):=by
 rw [zaf T (g:=v110) rfl rfl rfl _ _ rfl]
 simp (maxSteps:=9999999) (disch:=omega) only [vx,px,ty,↓reduceIte,seval,fx,v110,zwk,go_lpc]
 have hl:=fun k=>zlW (enF [.tmp 4] []) sto k xs [] 0 q rfl (by simp;omega) h2 h3 h4
 simp only [List.map_nil,List.nil_append] at hl
 rw [hl]
 simp (maxSteps:=9999999) (disch:=omega) only [vx,px,ty,↓reduceIte,seval,fx]
theorem zpZ (x:THeap) (q:Int) (sto:List (List D)) (h:THeap.n x<=34359738368) (h3:0<=q) (h4:q + ((lsum TObject.m x.Objects:Nat):Int)<=1099511627776):zaa T 47 [D.agg [D.int .i64 x.Next,D.sl false 10 (List.map (TObject.e false) (mkL TObject.mk_ TObject.nx x.Objects (q)))],.int .i64 q] sto=some (.int .i64 (zab TObject.nx x.Objects (q)),[],sto):=by
 simp only [THeap.n] at h
 have hfObjectsx:=zao TObject.nxm x.Objects (q)
 rw [zaf T (g:=v47) rfl rfl rfl _ _ rfl]
 simp (maxSteps:=9999999) (disch:=omega) only [vx,px,ty,↓reduceIte,seval,fx,v47,zAw,zlX]
theorem zkC {R:Type} (e:En R) (sto:List (List D)) (k:List Fr):∀ (rest pre:List TBinding) (i q:Int),i=pre.length->pre.length + rest.length<=34359738368->lsum TBinding.n rest<=34359738368->0<=q->q + ((lsum TBinding.m rest:Nat):Int)<=1099511627776 ->
  go T e zoY (.lp zvQ::.bl 0::.sq (.clr [4,5,6,7,8,9,10,11,12,13,14,15,16,17,18,19,20,21,22,23,24,25,26,27,28,29,30,31,32,33,34,35,36,37,38,39,40,41,42,43,44,45,46,47,48,49,50,51,52,53,54,55,56,57,58,59,60,61,62])::k) ⟨[.d (.sl false 5 (pre.map (TBinding.e false)++(mkL TBinding.mk_ TBinding.nx rest q).map (TBinding.e false))),.d (.int .i64 q),Z,Z,Z,.d (.int .i64 i),Z,Z,Z,Z,Z,Z,Z,Z,Z,Z,Z,Z,Z,Z,Z,Z,Z,Z,Z,Z,Z,Z,Z,Z,Z,Z,Z,Z,Z,Z,Z,Z,Z,Z,Z,Z,Z,Z,Z,Z,Z,Z,Z,Z,Z,Z,Z,Z,Z,Z,Z,Z,Z,Z,Z,Z,Z,Z],sto⟩=bk T e k ⟨[.d (.sl false 5 (pre.map (TBinding.e false)++(mkL TBinding.mk_ TBinding.nx rest q).map (TBinding.e false))),.d (.int .i64 (zab TBinding.nx rest q)),Z,Z,Z,Z,Z,Z,Z,Z,Z,Z,Z,Z,Z,Z,Z,Z,Z,Z,Z,Z,Z,Z,Z,Z,Z,Z,Z,Z,Z,Z,Z,Z,Z,Z,Z,Z,Z,Z,Z,Z,Z,Z,Z,Z,Z,Z,Z,Z,Z,Z,Z,Z,Z,Z,Z,Z,Z,Z,Z,Z,Z,Z],sto⟩:=by
 intro rest
 induction rest with
 | nil =>
  intro pre i q hi h1 h2 h3 h4
  have ht:i.toNat=pre.length:=by omega
  unfold zoY
  simp (maxSteps:=9999999) (disch:=omega) only [vx,px,ty,↓reduceIte,seval,fx,go_lpc,mkL,zab]
 | cons x rest ih =>
  intro pre i q hi h1 h2 h3 h4
  have ht:i.toNat=pre.length:=by omega
  simp only [zae,TBinding.m,TBinding.n,TValue.m,TValue.n] at h2 h4
  rw [List.length_cons] at h1
  have hnx:=TBinding.nxm x q
  have h:=ih (pre++[TBinding.mk_ x q]) (i + 1) (TBinding.nx x q) (by simp;omega) (by simp;omega) (by omega) (by omega) (by simp only [hnx,TBinding.m,TValue.m,TValue.n];omega)
  simp only [zaG] at h
  simp only [mkL,zab,List.map_cons]
  unfold zoY
  simp (maxSteps:=9999999) (disch:=omega) only [vx,px,ty,↓reduceIte,seval,fx,vxd,Nat.reduceBNe,go_lpc,ht,ifT,zcU,TBinding.mk_,TValue.mk_]
  exact h
theorem zhO (xs:List TBinding) (q:Int) (sto:List (List D)) (h:xs.length<=34359738368) (h2:lsum TBinding.n xs<=34359738368) (h3:0<=q) (h4:q + ((lsum TBinding.m xs:Nat):Int)<=1099511627776):zaa T 69 [.sl false 5 ((mkL TBinding.mk_ TBinding.nx xs q).map (TBinding.e false)),.int .i64 q] sto=some (.int .i64 (zab TBinding.nx xs q),[],sto):=by
 rw [zaf T (g:=v69) rfl rfl rfl _ _ rfl]
 simp (maxSteps:=9999999) (disch:=omega) only [vx,px,ty,↓reduceIte,seval,fx,v69,zAO,go_lpc]
 have hl:=fun k=>zkC (enF [.tmp 4] []) sto k xs [] 0 q rfl (by simp;omega) h2 h3 h4
 simp only [List.map_nil,List.nil_append] at hl
 rw [hl]
 simp (maxSteps:=9999999) (disch:=omega) only [vx,px,ty,↓reduceIte,seval,fx]
abbrev ziW (xs:List TGen):Prop:=∀ (q:Int) (sto:List (List D)) (h:xs.length<=34359738368) (h2:lsum TGen.n xs<=34359738368) (h3:0<=q) (h4:q + ((lsum TGen.m xs:Nat):Int)<=1099511627776),zaa T 142 [.sl false 8 ((mkL TGen.mk_ TGen.nx xs q).map (TGen.e false)),.int .i64 q] sto=some (.int .i64 (zab TGen.nx xs q),[],sto)
theorem zqa {R:Type} (e:En R) (sto:List (List D)) (k:List Fr):∀ (rest pre:List TGen) (i q:Int),(∀ y ∈ rest,ziW y.Kids)->i=pre.length->pre.length + rest.length<=34359738368->lsum TGen.n rest<=34359738368->0<=q->q + ((lsum TGen.m rest:Nat):Int)<=1099511627776 ->
  go T e zlF (.lp zrU::.bl 0::.sq (.clr [4,5,6,7,8,9,10,11,12,13,14,15,16,17,18,19,20,21,22,23,24,25,26,27,28,29,30,31,32,33,34,35,36,37,38,39,40,41,42,43,44,45,46,47,48,49,50,51,52,53,54,55,56,57,58,59,60,61,62,63,64,65,66,67,68,69,70,71,72,73,74,75,76,77,78,79,80,81,82,83,84,85,86,87,88,89])::k) ⟨[.d (.sl false 8 (pre.map (TGen.e false)++(mkL TGen.mk_ TGen.nx rest q).map (TGen.e false))),.d (.int .i64 q),Z,Z,Z,.d (.int .i64 i),Z,Z,Z,Z,Z,Z,Z,Z,Z,Z,Z,Z,Z,Z,Z,Z,Z,Z,Z,Z,Z,Z,Z,Z,Z,Z,Z,Z,Z,Z,Z,Z,Z,Z,Z,Z,Z,Z,Z,Z,Z,Z,Z,Z,Z,Z,Z,Z,Z,Z,Z,Z,Z,Z,Z,Z,Z,Z,Z,Z,Z,Z,Z,Z,Z,Z,Z,Z,Z,Z,Z,Z,Z,Z,Z,Z,Z,Z,Z,Z,Z,Z,Z,Z,Z],sto⟩=bk T e k ⟨[.d (.sl false 8 (pre.map (TGen.e false)++(mkL TGen.mk_ TGen.nx rest q).map (TGen.e false))),.d (.int .i64 (zab TGen.nx rest q)),Z,Z,Z,Z,Z,Z,Z,Z,Z,Z,Z,Z,Z,Z,Z,Z,Z,Z,Z,Z,Z,Z,Z,Z,Z,Z,Z,Z,Z,Z,Z,Z,Z,Z,Z,Z,Z,Z,Z,Z,Z,Z,Z,Z,Z,Z,Z,Z,Z,Z,Z,Z,Z,Z,Z,Z,Z,Z,Z,Z,Z,Z,Z,Z,Z,Z,Z,Z,Z,Z,Z,Z,Z,Z,Z,Z,Z,Z,Z,Z,Z,Z,Z,Z,Z,Z,Z,Z,Z],sto⟩:=by
 intro rest
 induction rest with
 | nil =>
  intro pre i q hq hi h1 h2 h3 h4
  have ht:i.toNat=pre.length:=by omega
  unfold zlF
  simp (maxSteps:=9999999) (disch:=omega) only [vx,px,ty,↓reduceIte,seval,fx,go_lpc,mkL,zab]
 | cons x rest ih =>
  intro pre i q hq hi h1 h2 h3 h4
  have ht:i.toNat=pre.length:=by omega
  have ziX:=hq x (List.mem_cons_self ..)
  simp only [zae,TGen.m_eq,TGen.n_eq,TValue.m,TValue.n] at h2 h4
  rw [List.length_cons] at h1
  have hf0:=zao TGen.nxm x.Kids (q + 1 + 1 + 1 + 1 + 1 + 1 + 1)
  have hnx:=TGen.nxm x q
  have h:=ih (pre++[TGen.mk_ x q]) (i + 1) (TGen.nx x q) (fun y hy=>hq y (List.mem_cons_of_mem _ hy)) (by simp;omega) (by simp;omega) (by omega) (by omega) (by simp only [hnx,TGen.m_eq,TValue.m,TValue.n];omega)
  simp only [zaG] at h
  simp only [TGen.mk_eq,TGen.nx_eq] at h
  simp only [mkL,zab,List.map_cons]
  unfold zlF
  simp (maxSteps:=9999999) (disch:=omega) only [vx,px,ty,↓reduceIte,seval,fx,vxd,Nat.reduceBNe,go_lpc,ht,ifT,ziX,zcU,TGen.mk_eq,TValue.mk_]
  try simp only [TGen.mk_eq,TGen.nx_eq]
  exact h
theorem zkm (xs:List TGen) (hq:∀ y ∈ xs,ziW y.Kids) (q:Int) (sto:List (List D)) (h:xs.length<=34359738368) (h2:lsum TGen.n xs<=34359738368) (h3:0<=q) (h4:q + ((lsum TGen.m xs:Nat):Int)<=1099511627776):zaa T 142 [.sl false 8 ((mkL TGen.mk_ TGen.nx xs q).map (TGen.e false)),.int .i64 q] sto=some (.int .i64 (zab TGen.nx xs q),[],sto):=by
 rw [zaf T (g:=v142) rfl rfl rfl _ _ rfl]
 simp (maxSteps:=9999999) (disch:=omega) only [vx,px,ty,↓reduceIte,seval,fx,v142,zwL,go_lpc]
 have hl:=fun k=>zqa (enF [.tmp 4] []) sto k xs [] 0 q hq rfl (by simp;omega) h2 h3 h4
 simp only [List.map_nil,List.nil_append] at hl
 rw [hl]
 simp (maxSteps:=9999999) (disch:=omega) only [vx,px,ty,↓reduceIte,seval,fx]
theorem zmX:∀ x:TGen,ziW x.Kids:=TGen.ind fun x ih=>by
 intro q sto h h2 h3 h4
 exact zkm x.Kids ih q sto h h2 h3 h4
theorem ziX (xs:List TGen) (q:Int) (sto:List (List D)) (h:xs.length<=34359738368) (h2:lsum TGen.n xs<=34359738368) (h3:0<=q) (h4:q + ((lsum TGen.m xs:Nat):Int)<=1099511627776):zaa T 142 [.sl false 8 ((mkL TGen.mk_ TGen.nx xs q).map (TGen.e false)),.int .i64 q] sto=some (.int .i64 (zab TGen.nx xs q),[],sto):=zkm xs (fun y _=>zmX y) q sto h h2 h3 h4
abbrev zgJ (xs:List TCursor):Prop:=∀ (q:Int) (sto:List (List D)) (h:xs.length<=34359738368) (h2:lsum TCursor.n xs<=34359738368) (h3:0<=q) (h4:q + ((lsum TCursor.m xs:Nat):Int)<=1099511627776),zaa T 144 [.sl false 4 ((mkL TCursor.mk_ TCursor.nx xs q).map (TCursor.e false)),.int .i64 q] sto=some (.int .i64 (zab TCursor.nx xs q),[],sto)
theorem zlY {R:Type} (e:En R) (sto:List (List D)) (k:List Fr):∀ (rest pre:List TCursor) (i q:Int),(∀ y ∈ rest,zgJ y.Kids)->i=pre.length->pre.length + rest.length<=34359738368->lsum TCursor.n rest<=34359738368->0<=q->q + ((lsum TCursor.m rest:Nat):Int)<=1099511627776 ->
  go T e zlH (.lp zrW::.bl 0::.sq (.clr [4,5,6,7,8,9,10,11,12,13,14,15,16,17,18,19,20,21,22,23,24,25,26,27,28,29,30,31,32,33,34,35,36,37,38,39,40,41,42,43,44,45,46,47])::k) ⟨[.d (.sl false 4 (pre.map (TCursor.e false)++(mkL TCursor.mk_ TCursor.nx rest q).map (TCursor.e false))),.d (.int .i64 q),Z,Z,Z,.d (.int .i64 i),Z,Z,Z,Z,Z,Z,Z,Z,Z,Z,Z,Z,Z,Z,Z,Z,Z,Z,Z,Z,Z,Z,Z,Z,Z,Z,Z,Z,Z,Z,Z,Z,Z,Z,Z,Z,Z,Z,Z,Z,Z,Z,Z],sto⟩=bk T e k ⟨[.d (.sl false 4 (pre.map (TCursor.e false)++(mkL TCursor.mk_ TCursor.nx rest q).map (TCursor.e false))),.d (.int .i64 (zab TCursor.nx rest q)),Z,Z,Z,Z,Z,Z,Z,Z,Z,Z,Z,Z,Z,Z,Z,Z,Z,Z,Z,Z,Z,Z,Z,Z,Z,Z,Z,Z,Z,Z,Z,Z,Z,Z,Z,Z,Z,Z,Z,Z,Z,Z,Z,Z,Z,Z,Z],sto⟩:=by
 intro rest
 induction rest with
 | nil =>
  intro pre i q hq hi h1 h2 h3 h4
  have ht:i.toNat=pre.length:=by omega
  unfold zlH
  simp (maxSteps:=9999999) (disch:=omega) only [vx,px,ty,↓reduceIte,seval,fx,go_lpc,mkL,zab]
 | cons x rest ih =>
  intro pre i q hq hi h1 h2 h3 h4
  have ht:i.toNat=pre.length:=by omega
  have zgK:=hq x (List.mem_cons_self ..)
  simp only [zae,TCursor.m_eq,TCursor.n_eq] at h2 h4
  rw [List.length_cons] at h1
  have hf0:=zao TValue.nxm x.Vals (q + 1 + 1)
  have hf1:=zao TCursor.nxm x.Kids (zab TValue.nx x.Vals (q + 1 + 1))
  have hnx:=TCursor.nxm x q
  have h:=ih (pre++[TCursor.mk_ x q]) (i + 1) (TCursor.nx x q) (fun y hy=>hq y (List.mem_cons_of_mem _ hy)) (by simp;omega) (by simp;omega) (by omega) (by omega) (by simp only [hnx,TCursor.m_eq];omega)
  simp only [zaG] at h
  simp only [TCursor.mk_eq,TCursor.nx_eq] at h
  simp only [mkL,zab,List.map_cons]
  unfold zlH
  simp (maxSteps:=9999999) (disch:=omega) only [vx,px,ty,↓reduceIte,seval,fx,vxd,Nat.reduceBNe,go_lpc,ht,ifT,zgK,zhj,TCursor.mk_eq]
  try simp only [TCursor.mk_eq,TCursor.nx_eq]
  exact h
theorem zhP (xs:List TCursor) (hq:∀ y ∈ xs,zgJ y.Kids) (q:Int) (sto:List (List D)) (h:xs.length<=34359738368) (h2:lsum TCursor.n xs<=34359738368) (h3:0<=q) (h4:q + ((lsum TCursor.m xs:Nat):Int)<=1099511627776):zaa T 144 [.sl false 4 ((mkL TCursor.mk_ TCursor.nx xs q).map (TCursor.e false)),.int .i64 q] sto=some (.int .i64 (zab TCursor.nx xs q),[],sto):=by
 rw [zaf T (g:=v144) rfl rfl rfl _ _ rfl]
 simp (maxSteps:=9999999) (disch:=omega) only [vx,px,ty,↓reduceIte,seval,fx,v144,zwN,go_lpc]
 have hl:=fun k=>zlY (enF [.tmp 4] []) sto k xs [] 0 q hq rfl (by simp;omega) h2 h3 h4
 simp only [List.map_nil,List.nil_append] at hl
 rw [hl]
 simp (maxSteps:=9999999) (disch:=omega) only [vx,px,ty,↓reduceIte,seval,fx]
theorem zkn:∀ x:TCursor,zgJ x.Kids:=TCursor.ind fun x ih=>by
 intro q sto h h2 h3 h4
 exact zhP x.Kids ih q sto h h2 h3 h4
theorem zgK (xs:List TCursor) (q:Int) (sto:List (List D)) (h:xs.length<=34359738368) (h2:lsum TCursor.n xs<=34359738368) (h3:0<=q) (h4:q + ((lsum TCursor.m xs:Nat):Int)<=1099511627776):zaa T 144 [.sl false 4 ((mkL TCursor.mk_ TCursor.nx xs q).map (TCursor.e false)),.int .i64 q] sto=some (.int .i64 (zab TCursor.nx xs q),[],sto):=zhP xs (fun y _=>zkn y) q sto h h2 h3 h4
theorem zlZ {R:Type} (e:En R) (sto:List (List D)) (k:List Fr):∀ (rest pre:List TCoexpr) (i q:Int),i=pre.length->pre.length + rest.length<=34359738368->lsum TCoexpr.n rest<=34359738368->0<=q->q + ((lsum TCoexpr.m rest:Nat):Int)<=1099511627776 ->
  go T e zpd (.lp zvV::.bl 0::.sq (.clr [4,5,6,7,8,9,10,11,12,13,14,15,16,17,18,19,20,21,22,23,24,25,26,27,28,29,30,31,32,33,34,35,36,37,38,39,40,41,42,43,44,45,46,47,48,49,50,51,52,53,54,55,56,57,58,59,60,61,62,63,64,65,66,67,68,69,70,71,72,73,74,75,76,77,78,79,80,81,82,83,84,85,86,87,88,89,90,91,92,93,94,95,96,97,98,99,100,101,102,103,104,105,106,107,108,109,110,111,112,113,114,115,116,117,118,119,120,121,122,123,124,125,126,127,128,129,130,131,132,133,134,135,136,137,138,139,140,141,142,143,144,145,146,147,148,149,150,151,152,153,154,155,156,157,158,159,160,161,162,163,164,165,166,167,168,169,170,171,172,173,174,175,176,177,178,179,180,181,182,183,184])::k) ⟨[.d (.sl false 17 (pre.map (TCoexpr.e false)++(mkL TCoexpr.mk_ TCoexpr.nx rest q).map (TCoexpr.e false))),.d (.int .i64 q),Z,Z,Z,.d (.int .i64 i),Z,Z,Z,Z,Z,Z,Z,Z,Z,Z,Z,Z,Z,Z,Z,Z,Z,Z,Z,Z,Z,Z,Z,Z,Z,Z,Z,Z,Z,Z,Z,Z,Z,Z,Z,Z,Z,Z,Z,Z,Z,Z,Z,Z,Z,Z,Z,Z,Z,Z,Z,Z,Z,Z,Z,Z,Z,Z,Z,Z,Z,Z,Z,Z,Z,Z,Z,Z,Z,Z,Z,Z,Z,Z,Z,Z,Z,Z,Z,Z,Z,Z,Z,Z,Z,Z,Z,Z,Z,Z,Z,Z,Z,Z,Z,Z,Z,Z,Z,Z,Z,Z,Z,Z,Z,Z,Z,Z,Z,Z,Z,Z,Z,Z,Z,Z,Z,Z,Z,Z,Z,Z,Z,Z,Z,Z,Z,Z,Z,Z,Z,Z,Z,Z,Z,Z,Z,Z,Z,Z,Z,Z,Z,Z,Z,Z,Z,Z,Z,Z,Z,Z,Z,Z,Z,Z,Z,Z,Z,Z,Z,Z,Z,Z,Z,Z,Z,Z,Z,Z,Z,Z,Z,Z,Z,Z,Z,Z,Z,Z],sto⟩=bk T e k ⟨[.d (.sl false 17 (pre.map (TCoexpr.e false)++(mkL TCoexpr.mk_ TCoexpr.nx rest q).map (TCoexpr.e false))),.d (.int .i64 (zab TCoexpr.nx rest q)),Z,Z,Z,Z,Z,Z,Z,Z,Z,Z,Z,Z,Z,Z,Z,Z,Z,Z,Z,Z,Z,Z,Z,Z,Z,Z,Z,Z,Z,Z,Z,Z,Z,Z,Z,Z,Z,Z,Z,Z,Z,Z,Z,Z,Z,Z,Z,Z,Z,Z,Z,Z,Z,Z,Z,Z,Z,Z,Z,Z,Z,Z,Z,Z,Z,Z,Z,Z,Z,Z,Z,Z,Z,Z,Z,Z,Z,Z,Z,Z,Z,Z,Z,Z,Z,Z,Z,Z,Z,Z,Z,Z,Z,Z,Z,Z,Z,Z,Z,Z,Z,Z,Z,Z,Z,Z,Z,Z,Z,Z,Z,Z,Z,Z,Z,Z,Z,Z,Z,Z,Z,Z,Z,Z,Z,Z,Z,Z,Z,Z,Z,Z,Z,Z,Z,Z,Z,Z,Z,Z,Z,Z,Z,Z,Z,Z,Z,Z,Z,Z,Z,Z,Z,Z,Z,Z,Z,Z,Z,Z,Z,Z,Z,Z,Z,Z,Z,Z,Z,Z,Z,Z,Z,Z,Z,Z,Z,Z,Z,Z,Z,Z,Z,Z],sto⟩:=by
 intro rest
 induction rest with
 | nil =>
  intro pre i q hi h1 h2 h3 h4
  have ht:i.toNat=pre.length:=by omega
  unfold zpd
  simp (maxSteps:=9999999) (disch:=omega) only [vx,px,ty,↓reduceIte,seval,fx,go_lpc,mkL,zab]
 | cons x rest ih =>
  intro pre i q hi h1 h2 h3 h4
  have ht:i.toNat=pre.length:=by omega
  simp only [zae,TCoexpr.m,TCoexpr.n,TGen.m_eq,TGen.n_eq,TValue.m,TValue.n,TCursor.m_eq,TCursor.n_eq] at h2 h4
  rw [List.length_cons] at h1
  have hf0:=zao TGen.nxm x.Body.Kids (q + 1 + 1 + 1 + 1 + 1 + 1 + 1 + 1)
  have hf1:=zao TBinding.nxm x.Start (zab TGen.nx x.Body.Kids (q + 1 + 1 + 1 + 1 + 1 + 1 + 1 + 1))
  have hf2:=zao TBinding.nxm x.Vars (zab TBinding.nx x.Start (zab TGen.nx x.Body.Kids (q + 1 + 1 + 1 + 1 + 1 + 1 + 1 + 1)))
  have hf3:=zao TValue.nxm x.Cursor.Vals (zab TBinding.nx x.Vars (zab TBinding.nx x.Start (zab TGen.nx x.Body.Kids (q + 1 + 1 + 1 + 1 + 1 + 1 + 1 + 1))) + 1 + 1)
  have hf4:=zao TCursor.nxm x.Cursor.Kids (zab TValue.nx x.Cursor.Vals (zab TBinding.nx x.Vars (zab TBinding.nx x.Start (zab TGen.nx x.Body.Kids (q + 1 + 1 + 1 + 1 + 1 + 1 + 1 + 1))) + 1 + 1))
  have hnx:=TCoexpr.nxm x q
  have h:=ih (pre++[TCoexpr.mk_ x q]) (i + 1) (TCoexpr.nx x q) (by simp;omega) (by simp;omega) (by omega) (by omega) (by simp only [hnx,TCoexpr.m,TGen.m_eq,TGen.n_eq,TValue.m,TValue.n,TCursor.m_eq,TCursor.n_eq];omega)
  simp only [zaG] at h
  simp only [mkL,zab,List.map_cons]
  unfold zpd
  simp (maxSteps:=9999999) (disch:=omega) only [vx,px,ty,↓reduceIte,seval,fx,vxd,Nat.reduceBNe,go_lpc,ht,ifT,zhO,zgK,ziX,zhj,zcU,beq_self_eq_true,Bool.not_true,TCoexpr.mk_,TGen.mk_,TValue.mk_,TCursor.mk_]
  exact h
theorem zma (xs:List TCoexpr) (q:Int) (sto:List (List D)) (h:xs.length<=34359738368) (h2:lsum TCoexpr.n xs<=34359738368) (h3:0<=q) (h4:q + ((lsum TCoexpr.m xs:Nat):Int)<=1099511627776):zaa T 82 [.sl false 17 ((mkL TCoexpr.mk_ TCoexpr.nx xs q).map (TCoexpr.e false)),.int .i64 q] sto=some (.int .i64 (zab TCoexpr.nx xs q),[],sto):=by
 rw [zaf T (g:=v82) rfl rfl rfl _ _ rfl]
 simp (maxSteps:=9999999) (disch:=omega) only [vx,px,ty,↓reduceIte,seval,fx,v82,zAW,go_lpc]
 have hl:=fun k=>zlZ (enF [.tmp 4] []) sto k xs [] 0 q rfl (by simp;omega) h2 h3 h4
 simp only [List.map_nil,List.nil_append] at hl
 rw [hl]
 simp (maxSteps:=9999999) (disch:=omega) only [vx,px,ty,↓reduceIte,seval,fx]
theorem zhQ (x:TGenScope) (q:Int) (sto:List (List D)) (h:TGenScope.n x<=34359738368) (h3:0<=q) (h4:q + ((lsum TBinding.m x.Vars + lsum TObject.m x.Heap.Objects + lsum TCoexpr.m x.Cos:Nat):Int)<=1099511627776):zaa T 32 [D.agg [D.sl false 5 (List.map (TBinding.e false) (mkL TBinding.mk_ TBinding.nx x.Vars (q))),D.int .i64 x.Heap.Next,D.sl false 10 (List.map (TObject.e false) (mkL TObject.mk_ TObject.nx x.Heap.Objects (zab TBinding.nx x.Vars (q)))),D.sl false 17 (List.map (TCoexpr.e false) (mkL TCoexpr.mk_ TCoexpr.nx x.Cos (zab TObject.nx x.Heap.Objects (zab TBinding.nx x.Vars (q))))),D.int .i64 x.Steps],.int .i64 q] sto=some (.int .i64 (zab TCoexpr.nx x.Cos (zab TObject.nx x.Heap.Objects (zab TBinding.nx x.Vars (q)))),[],sto):=by
 simp only [TGenScope.n] at h
 have hfVarsx:=zao TBinding.nxm x.Vars (q)
 have hfObjectsx_Heap:=zao TObject.nxm x.Heap.Objects (zab TBinding.nx x.Vars (q))
 have hfCosx:=zao TCoexpr.nxm x.Cos (zab TObject.nx x.Heap.Objects (zab TBinding.nx x.Vars (q)))
 rw [zaf T (g:=v32) rfl rfl rfl _ _ rfl]
 simp (maxSteps:=9999999) (disch:=omega) only [vx,px,ty,↓reduceIte,seval,fx,v32,zAs,zhO,zma,zpZ]
end Go.Vx.RmZ

