/-
  The laws' own functions: mark.
-/
import Derived.Test.YtnaaflejkfaiaaaGreatTypes
import Derived.Test.YtnaaflejkfaiaaaGreatCode
set_option linter.unusedVariables false
set_option linter.unusedSimpArgs false
namespace Go.Vx.RmZ
set_option maxRecDepth 4000
set_option maxHeartbeats 4000000
theorem zpW {R:Type} (e:En R) (sto:List (List D)) (k:List Fr):∀ (f q:Nat) (acc:ByteArray),q<=f->acc.size + q<=4611686018427387904 ->
  go T e zmK (.lp zvz::.bl 0::.sq (.clr [2,4,5,6,7,8,9,10,11,12,13,14,15,16,17])::k) ⟨[.d (.int .i64 q),Z,Z,.d (.str acc),Z,Z,Z,Z,Z,Z,Z,Z,Z,Z,Z,Z,Z,Z,Z,Z],sto⟩=bk T e k ⟨[.d (.int .i64 0),Z,Z,.d (.str (digs f q acc)),Z,Z,Z,Z,Z,Z,Z,Z,Z,Z,Z,Z,Z,Z,Z,Z],sto⟩:=by
 intro f
 induction f with
 | zero =>
  intro q acc h1 h2
  obtain rfl:q=0:=by omega
  unfold zmK
  simp (maxSteps:=9999999) (disch:=omega) only [vx,px,ty,↓reduceIte,seval,fx,go_lpc,digs]
  try rfl
 | succ f ih =>
  intro q acc h1 h2
  by_cases hq:q=0
  ·subst hq
   unfold zmK
   simp (maxSteps:=9999999) (disch:=omega) only [vx,px,ty,↓reduceIte,seval,fx,go_lpc,digs]
   try rfl
  ·have e1:((q:Int)).tmod 10=((q % 10:Nat):Int):=rfl
   have e2:((q:Int)).tdiv 10=((q / 10:Nat):Int):=rfl
   have e3:IntKind.wrap .u8 (48 + ((q % 10:Nat):Int))=((48 + q % 10:Nat):Int):=by
    simp only [IntKind.wrap,IntKind.signed,IntKind.bits];simp;omega
   have e4:(((48 + q % 10:Nat):Int)).toNat.toUInt8=(48 + q % 10).toUInt8:=by rw [Int.toNat_natCast]
   have e5:((⟨#[(48 + q % 10).toUInt8]⟩:ByteArray)).size=1:=rfl
   have e6:(⟨#[(48 + q % 10).toUInt8]⟩:ByteArray).size + acc.size<=zgQ:=by rw [e5];unfold zgQ;omega
   have e7:(⟨#[(48 + q % 10).toUInt8]⟩++acc:ByteArray).size=1 + acc.size:=by rw [ByteArray.size_append];rfl
   have h:=ih (q / 10) (⟨#[(48 + q % 10).toUInt8]⟩++acc) (by omega) (by rw [e7];omega)
   unfold zmK
   simp (maxSteps:=9999999) (disch:=omega) only [vx,px,ty,↓reduceIte,seval,fx,go_lpc,digs,e1,e2,e3,hq,zhF,e4,e6,ifF,ifT]
   exact h
theorem zcU (k:Int) (sto:List (List D)) (h:0<=k) (h2:k<=1099511627776):zaa T 43 [.int .i64 k] sto=some (.str (mt k),[],sto):=by
 by_cases hk:k<=0
 ·obtain rfl:k=0:=by omega
  rw [zaf T (g:=v43) rfl rfl rfl _ _ rfl]
  simp (maxSteps:=9999999) (disch:=omega) only [vx,px,ty,↓reduceIte,seval,fx,v43,zyY,go_lpc]
  rfl
 ·have hl:=fun kk=>zpW (enF [.tmp 2] []) sto kk k.toNat k.toNat ⟨#[]⟩ (Nat.le_refl _) (by have:(⟨#[]⟩:ByteArray).size=0:=rfl;omega)
  have ek:((k.toNat:Nat):Int)=k:=by omega
  rw [ek] at hl
  have hd:∀ (f q:Nat) (acc:ByteArray),q<=f->(digs f q acc).size<=acc.size + q:=by
   intro f
   induction f with
   | zero=>intro q acc _;simp [digs]
   | succ f ih =>
    intro q acc hq
    simp only [digs]
    split
    ·omega
    ·rename_i hne
     have:=ih (q / 10) (⟨#[(48 + q % 10).toUInt8]⟩++acc) (by omega)
     have e7:(⟨#[(48 + q % 10).toUInt8]⟩++acc:ByteArray).size=1 + acc.size:=by rw [ByteArray.size_append];rfl
     omega
  have hs:=hd k.toNat k.toNat ⟨#[]⟩ (Nat.le_refl _)
  have hz:(⟨#[]⟩:ByteArray).size=0:=rfl
  have hm:(⟨#[109]⟩:ByteArray).size + (digs k.toNat k.toNat ⟨#[]⟩).size<=zgQ:=by
   have:(⟨#[109]⟩:ByteArray).size=1:=rfl
   rw [this];unfold zgQ;omega
  rw [zaf T (g:=v43) rfl rfl rfl _ _ rfl]
  simp (maxSteps:=9999999) (disch:=omega) only [vx,px,ty,↓reduceIte,seval,fx,v43,zyY,go_lpc]
  rw [hl]
  simp (maxSteps:=9999999) (disch:=omega) only [vx,px,ty,↓reduceIte,seval,fx,hm,mt,hk,ifF]
theorem zmU {R:Type} (e:En R) (sto:List (List D)) (k:List Fr):∀ (rest pre:List TValue) (i q:Int),i=pre.length->pre.length + rest.length<=34359738368->lsum TValue.n rest<=34359738368->0<=q->q + ((lsum TValue.m rest:Nat):Int)<=1099511627776 ->
  go T e zlD (.lp zrS::.bl 0::.sq (.clr [4,5,6,7,8,9,10,11,12,13,14,15,16,17,18,19,20,21,22,23,24,25,26,27,28,29,30,31,32,33,34,35,36,37,38,39,40])::k) ⟨[.d (.sl true 4 (pre.map (TValue.e false)++rest.map (TValue.e false))),.d (.int .i64 q),Z,Z,Z,.d (.int .i64 i),Z,Z,Z,Z,Z,Z,Z,Z,Z,Z,Z,Z,Z,Z,Z,Z,Z,Z,Z,Z,Z,Z,Z,Z,Z,Z,Z,Z,Z,Z,Z,Z,Z,Z,Z,Z],sto⟩=bk T e k ⟨[.d (.sl true 4 (pre.map (TValue.e false)++(mkL TValue.mk_ TValue.nx rest q).map (TValue.e false))),.d (.int .i64 (zab TValue.nx rest q)),Z,Z,Z,Z,Z,Z,Z,Z,Z,Z,Z,Z,Z,Z,Z,Z,Z,Z,Z,Z,Z,Z,Z,Z,Z,Z,Z,Z,Z,Z,Z,Z,Z,Z,Z,Z,Z,Z,Z,Z],sto⟩:=by
 intro rest
 induction rest with
 | nil =>
  intro pre i q hi h1 h2 h3 h4
  have ht:i.toNat=pre.length:=by omega
  unfold zlD
  simp (maxSteps:=9999999) (disch:=omega) only [vx,px,ty,↓reduceIte,seval,fx,go_lpc,mkL,zab]
 | cons x rest ih =>
  intro pre i q hi h1 h2 h3 h4
  have ht:i.toNat=pre.length:=by omega
  simp only [zae,TValue.m,TValue.n] at h2 h4
  rw [List.length_cons] at h1
  have hnx:=TValue.nxm x q
  have h:=ih (pre++[TValue.mk_ x q]) (i + 1) (TValue.nx x q) (by simp;omega) (by simp;omega) (by omega) (by omega) (by simp only [hnx,TValue.m];omega)
  simp only [zaG] at h
  simp only [mkL,zab,List.map_cons]
  unfold zlD
  simp (maxSteps:=9999999) (disch:=omega) only [vx,px,ty,↓reduceIte,seval,fx,vxd,Nat.reduceBNe,go_lpc,ht,ifT,zcU]
  exact h
theorem zhi (xs:List TValue) (q:Int) (sto:List (List D)) (h:xs.length<=34359738368) (h2:lsum TValue.n xs<=34359738368) (h3:0<=q) (h4:q + ((lsum TValue.m xs:Nat):Int)<=1099511627776):zaa T 140 [.sl true 4 (xs.map (TValue.e false)),.int .i64 q] sto=some (.int .i64 (zab TValue.nx xs q),[.sl true 4 ((mkL TValue.mk_ TValue.nx xs q).map (TValue.e false))],sto):=by
 rw [zaf T (g:=v140) rfl rfl rfl _ _ rfl]
 simp (maxSteps:=9999999) (disch:=omega) only [vx,px,ty,↓reduceIte,seval,fx,v140,zwJ,go_lpc]
 have hl:=fun k=>zmU (enF [.tmp 4] [0]) sto k xs [] 0 q rfl (by simp;omega) h2 h3 h4
 simp only [List.map_nil,List.nil_append] at hl
 rw [hl]
 simp (maxSteps:=9999999) (disch:=omega) only [vx,px,ty,↓reduceIte,seval,fx]
theorem zlR {R:Type} (e:En R) (sto:List (List D)) (k:List Fr):∀ (rest pre:List TObject) (i q:Int),i=pre.length->pre.length + rest.length<=34359738368->lsum TObject.n rest<=34359738368->0<=q->q + ((lsum TObject.m rest:Nat):Int)<=1099511627776 ->
  go T e zlx (.lp zrm::.bl 0::.sq (.clr [4,5,6,7,8,9,10,11,12,13,14,15,16,17,18,19,20,21,22,23,24,25,26,27,28,29,30,31,32,33,34,35,36,37,38,39,40,41,42,43,44,45,46,47,48,49,50,51,52,53,54,55,56,57,58,59,60,61,62,63,64,65,66,67,68,69,70,71,72,73,74,75,76,77,78,79,80,81,82,83,84,85,86,87])::k) ⟨[.d (.sl true 10 (pre.map (TObject.e true)++rest.map (TObject.e true))),.d (.int .i64 q),Z,Z,Z,.d (.int .i64 i),Z,Z,Z,Z,Z,Z,Z,Z,Z,Z,Z,Z,Z,Z,Z,Z,Z,Z,Z,Z,Z,Z,Z,Z,Z,Z,Z,Z,Z,Z,Z,Z,Z,Z,Z,Z,Z,Z,Z,Z,Z,Z,Z,Z,Z,Z,Z,Z,Z,Z,Z,Z,Z,Z,Z,Z,Z,Z,Z,Z,Z,Z,Z,Z,Z,Z,Z,Z,Z,Z,Z,Z,Z,Z,Z,Z,Z,Z,Z,Z,Z,Z,Z],sto⟩=bk T e k ⟨[.d (.sl true 10 (pre.map (TObject.e true)++(mkL TObject.mk_ TObject.nx rest q).map (TObject.e true))),.d (.int .i64 (zab TObject.nx rest q)),Z,Z,Z,Z,Z,Z,Z,Z,Z,Z,Z,Z,Z,Z,Z,Z,Z,Z,Z,Z,Z,Z,Z,Z,Z,Z,Z,Z,Z,Z,Z,Z,Z,Z,Z,Z,Z,Z,Z,Z,Z,Z,Z,Z,Z,Z,Z,Z,Z,Z,Z,Z,Z,Z,Z,Z,Z,Z,Z,Z,Z,Z,Z,Z,Z,Z,Z,Z,Z,Z,Z,Z,Z,Z,Z,Z,Z,Z,Z,Z,Z,Z,Z,Z,Z,Z,Z],sto⟩:=by
 intro rest
 induction rest with
 | nil =>
  intro pre i q hi h1 h2 h3 h4
  have ht:i.toNat=pre.length:=by omega
  unfold zlx
  simp (maxSteps:=9999999) (disch:=omega) only [vx,px,ty,↓reduceIte,seval,fx,go_lpc,mkL,zab]
 | cons x rest ih =>
  intro pre i q hi h1 h2 h3 h4
  have ht:i.toNat=pre.length:=by omega
  simp only [zae,TObject.m,TObject.n,TValue.m,TValue.n] at h2 h4
  rw [List.length_cons] at h1
  have hf0:=zao TValue.nxm x.Keys (q + 1 + 1 + 1 + 1)
  have hf1:=zao TValue.nxm x.Vals (zab TValue.nx x.Keys (q + 1 + 1 + 1 + 1))
  have hnx:=TObject.nxm x q
  have h:=ih (pre++[TObject.mk_ x q]) (i + 1) (TObject.nx x q) (by simp;omega) (by simp;omega) (by omega) (by omega) (by simp only [hnx,TObject.m,TValue.m,TValue.n];omega)
  simp only [zaG] at h
  simp only [mkL,zab,List.map_cons]
  unfold zlx
  simp (maxSteps:=9999999) (disch:=omega) only [vx,px,ty,↓reduceIte,seval,fx,vxd,Nat.reduceBNe,go_lpc,ht,ifT,zcU,zhi]
  exact h
theorem zlS (xs:List TObject) (q:Int) (sto:List (List D)) (h:xs.length<=34359738368) (h2:lsum TObject.n xs<=34359738368) (h3:0<=q) (h4:q + ((lsum TObject.m xs:Nat):Int)<=1099511627776):zaa T 106 [.sl true 10 (xs.map (TObject.e true)),.int .i64 q] sto=some (.int .i64 (zab TObject.nx xs q),[.sl true 10 ((mkL TObject.mk_ TObject.nx xs q).map (TObject.e true))],sto):=by
 rw [zaf T (g:=v106) rfl rfl rfl _ _ rfl]
 simp (maxSteps:=9999999) (disch:=omega) only [vx,px,ty,↓reduceIte,seval,fx,v106,zwj,go_lpc]
 have hl:=fun k=>zlR (enF [.tmp 4] [0]) sto k xs [] 0 q rfl (by simp;omega) h2 h3 h4
 simp only [List.map_nil,List.nil_append] at hl
 rw [hl]
 simp (maxSteps:=9999999) (disch:=omega) only [vx,px,ty,↓reduceIte,seval,fx]
theorem zpX (x:THeap) (q:Int) (sto:List (List D)) (h:THeap.n x<=34359738368) (h3:0<=q) (h4:q + ((lsum TObject.m x.Objects:Nat):Int)<=1099511627776):zaa T 44 [D.agg [D.int .i64 x.Next,D.sl true 10 (List.map (TObject.e true) x.Objects)],.int .i64 q] sto=some (.int .i64 (zab TObject.nx x.Objects (q)),[D.agg [D.int .i64 x.Next,D.sl true 10 (List.map (TObject.e true) (mkL TObject.mk_ TObject.nx x.Objects (q)))]],sto):=by
 simp only [THeap.n] at h
 have hfObjectsx:=zao TObject.nxm x.Objects (q)
 have hmk:T.mrk 44=some [(1,.one,106)]:=rfl
 rw [zkI T rfl hmk]
 simp (maxSteps:=9999999) (disch:=omega) only [vx,px,ty,↓reduceIte,seval,fx,zjJ,zgd,zdA,zhD,BK.width,List.replicate,zlS]
theorem zkB {R:Type} (e:En R) (sto:List (List D)) (k:List Fr):∀ (rest pre:List TBinding) (i q:Int),i=pre.length->pre.length + rest.length<=34359738368->lsum TBinding.n rest<=34359738368->0<=q->q + ((lsum TBinding.m rest:Nat):Int)<=1099511627776 ->
  go T e zoW (.lp zvO::.bl 0::.sq (.clr [4,5,6,7,8,9,10,11,12,13,14,15,16,17,18,19,20,21,22,23,24,25,26,27,28,29,30,31,32,33,34,35,36,37,38,39,40,41,42,43,44,45,46,47,48,49,50,51,52])::k) ⟨[.d (.sl true 5 (pre.map (TBinding.e false)++rest.map (TBinding.e false))),.d (.int .i64 q),Z,Z,Z,.d (.int .i64 i),Z,Z,Z,Z,Z,Z,Z,Z,Z,Z,Z,Z,Z,Z,Z,Z,Z,Z,Z,Z,Z,Z,Z,Z,Z,Z,Z,Z,Z,Z,Z,Z,Z,Z,Z,Z,Z,Z,Z,Z,Z,Z,Z,Z,Z,Z,Z,Z],sto⟩=bk T e k ⟨[.d (.sl true 5 (pre.map (TBinding.e false)++(mkL TBinding.mk_ TBinding.nx rest q).map (TBinding.e false))),.d (.int .i64 (zab TBinding.nx rest q)),Z,Z,Z,Z,Z,Z,Z,Z,Z,Z,Z,Z,Z,Z,Z,Z,Z,Z,Z,Z,Z,Z,Z,Z,Z,Z,Z,Z,Z,Z,Z,Z,Z,Z,Z,Z,Z,Z,Z,Z,Z,Z,Z,Z,Z,Z,Z,Z,Z,Z,Z,Z],sto⟩:=by
 intro rest
 induction rest with
 | nil =>
  intro pre i q hi h1 h2 h3 h4
  have ht:i.toNat=pre.length:=by omega
  unfold zoW
  simp (maxSteps:=9999999) (disch:=omega) only [vx,px,ty,↓reduceIte,seval,fx,go_lpc,mkL,zab]
 | cons x rest ih =>
  intro pre i q hi h1 h2 h3 h4
  have ht:i.toNat=pre.length:=by omega
  simp only [zae,TBinding.m,TBinding.n,TValue.m,TValue.n] at h2 h4
  rw [List.length_cons] at h1
  have hnx:=TBinding.nxm x q
  have h:=ih (pre++[TBinding.mk_ x q]) (i + 1) (TBinding.nx x q) (by simp;omega) (by simp;omega) (by omega) (by omega) (by simp only [hnx,TBinding.m,TValue.m,TValue.n];omega)
  simp only [zaG] at h
  simp only [mkL,zab,List.map_cons]
  unfold zoW
  simp (maxSteps:=9999999) (disch:=omega) only [vx,px,ty,↓reduceIte,seval,fx,vxd,Nat.reduceBNe,go_lpc,ht,ifT,zcU]
  exact h
theorem zhM (xs:List TBinding) (q:Int) (sto:List (List D)) (h:xs.length<=34359738368) (h2:lsum TBinding.n xs<=34359738368) (h3:0<=q) (h4:q + ((lsum TBinding.m xs:Nat):Int)<=1099511627776):zaa T 65 [.sl true 5 (xs.map (TBinding.e false)),.int .i64 q] sto=some (.int .i64 (zab TBinding.nx xs q),[.sl true 5 ((mkL TBinding.mk_ TBinding.nx xs q).map (TBinding.e false))],sto):=by
 rw [zaf T (g:=v65) rfl rfl rfl _ _ rfl]
 simp (maxSteps:=9999999) (disch:=omega) only [vx,px,ty,↓reduceIte,seval,fx,v65,zAM,go_lpc]
 have hl:=fun k=>zkB (enF [.tmp 4] [0]) sto k xs [] 0 q rfl (by simp;omega) h2 h3 h4
 simp only [List.map_nil,List.nil_append] at hl
 rw [hl]
 simp (maxSteps:=9999999) (disch:=omega) only [vx,px,ty,↓reduceIte,seval,fx]
abbrev ziU (xs:List TGen):Prop:=∀ (q:Int) (sto:List (List D)) (h:xs.length<=34359738368) (h2:lsum TGen.n xs<=34359738368) (h3:0<=q) (h4:q + ((lsum TGen.m xs:Nat):Int)<=1099511627776),zaa T 81 [.sl true 8 (xs.map (TGen.e true)),.int .i64 q] sto=some (.int .i64 (zab TGen.nx xs q),[.sl true 8 ((mkL TGen.mk_ TGen.nx xs q).map (TGen.e true))],sto)
theorem zpY {R:Type} (e:En R) (sto:List (List D)) (k:List Fr):∀ (rest pre:List TGen) (i q:Int),(∀ y ∈ rest,ziU y.Kids)->i=pre.length->pre.length + rest.length<=34359738368->lsum TGen.n rest<=34359738368->0<=q->q + ((lsum TGen.m rest:Nat):Int)<=1099511627776 ->
  go T e zpc (.lp zvU::.bl 0::.sq (.clr [4,5,6,7,8,9,10,11,12,13,14,15,16,17,18,19,20,21,22,23,24,25,26,27,28,29,30,31,32,33,34,35,36,37,38,39,40,41,42,43,44,45,46,47,48,49,50,51,52,53,54,55,56,57,58,59,60,61,62,63,64,65,66,67,68,69,70,71,72,73])::k) ⟨[.d (.sl true 8 (pre.map (TGen.e true)++rest.map (TGen.e true))),.d (.int .i64 q),Z,Z,Z,.d (.int .i64 i),Z,Z,Z,Z,Z,Z,Z,Z,Z,Z,Z,Z,Z,Z,Z,Z,Z,Z,Z,Z,Z,Z,Z,Z,Z,Z,Z,Z,Z,Z,Z,Z,Z,Z,Z,Z,Z,Z,Z,Z,Z,Z,Z,Z,Z,Z,Z,Z,Z,Z,Z,Z,Z,Z,Z,Z,Z,Z,Z,Z,Z,Z,Z,Z,Z,Z,Z,Z,Z],sto⟩=bk T e k ⟨[.d (.sl true 8 (pre.map (TGen.e true)++(mkL TGen.mk_ TGen.nx rest q).map (TGen.e true))),.d (.int .i64 (zab TGen.nx rest q)),Z,Z,Z,Z,Z,Z,Z,Z,Z,Z,Z,Z,Z,Z,Z,Z,Z,Z,Z,Z,Z,Z,Z,Z,Z,Z,Z,Z,Z,Z,Z,Z,Z,Z,Z,Z,Z,Z,Z,Z,Z,Z,Z,Z,Z,Z,Z,Z,Z,Z,Z,Z,Z,Z,Z,Z,Z,Z,Z,Z,Z,Z,Z,Z,Z,Z,Z,Z,Z,Z,Z,Z,Z],sto⟩:=by
 intro rest
 induction rest with
 | nil =>
  intro pre i q hq hi h1 h2 h3 h4
  have ht:i.toNat=pre.length:=by omega
  unfold zpc
  simp (maxSteps:=9999999) (disch:=omega) only [vx,px,ty,↓reduceIte,seval,fx,go_lpc,mkL,zab]
 | cons x rest ih =>
  intro pre i q hq hi h1 h2 h3 h4
  have ht:i.toNat=pre.length:=by omega
  have ziV:=hq x (List.mem_cons_self ..)
  simp only [zae,TGen.m_eq,TGen.n_eq,TValue.m,TValue.n] at h2 h4
  rw [List.length_cons] at h1
  have hf0:=zao TGen.nxm x.Kids (q + 1 + 1 + 1 + 1 + 1 + 1 + 1)
  have hnx:=TGen.nxm x q
  have h:=ih (pre++[TGen.mk_ x q]) (i + 1) (TGen.nx x q) (fun y hy=>hq y (List.mem_cons_of_mem _ hy)) (by simp;omega) (by simp;omega) (by omega) (by omega) (by simp only [hnx,TGen.m_eq,TValue.m,TValue.n];omega)
  simp only [zaG] at h
  simp only [TGen.e_eq,TGen.mk_eq,TGen.nx_eq] at h
  simp only [mkL,zab,List.map_cons]
  unfold zpc
  simp (maxSteps:=9999999) (disch:=omega) only [vx,px,ty,↓reduceIte,seval,fx,vxd,Nat.reduceBNe,go_lpc,ht,ifT,ziV,zcU]
  try simp only [TGen.e_eq,TGen.mk_eq,TGen.nx_eq]
  exact h
theorem zkk (xs:List TGen) (hq:∀ y ∈ xs,ziU y.Kids) (q:Int) (sto:List (List D)) (h:xs.length<=34359738368) (h2:lsum TGen.n xs<=34359738368) (h3:0<=q) (h4:q + ((lsum TGen.m xs:Nat):Int)<=1099511627776):zaa T 81 [.sl true 8 (xs.map (TGen.e true)),.int .i64 q] sto=some (.int .i64 (zab TGen.nx xs q),[.sl true 8 ((mkL TGen.mk_ TGen.nx xs q).map (TGen.e true))],sto):=by
 rw [zaf T (g:=v81) rfl rfl rfl _ _ rfl]
 simp (maxSteps:=9999999) (disch:=omega) only [vx,px,ty,↓reduceIte,seval,fx,v81,zAV,go_lpc]
 have hl:=fun k=>zpY (enF [.tmp 4] [0]) sto k xs [] 0 q hq rfl (by simp;omega) h2 h3 h4
 simp only [List.map_nil,List.nil_append] at hl
 rw [hl]
 simp (maxSteps:=9999999) (disch:=omega) only [vx,px,ty,↓reduceIte,seval,fx]
theorem zmV:∀ x:TGen,ziU x.Kids:=TGen.ind fun x ih=>by
 intro q sto h h2 h3 h4
 exact zkk x.Kids ih q sto h h2 h3 h4
theorem ziV (xs:List TGen) (q:Int) (sto:List (List D)) (h:xs.length<=34359738368) (h2:lsum TGen.n xs<=34359738368) (h3:0<=q) (h4:q + ((lsum TGen.m xs:Nat):Int)<=1099511627776):zaa T 81 [.sl true 8 (xs.map (TGen.e true)),.int .i64 q] sto=some (.int .i64 (zab TGen.nx xs q),[.sl true 8 ((mkL TGen.mk_ TGen.nx xs q).map (TGen.e true))],sto):=zkk xs (fun y _=>zmV y) q sto h h2 h3 h4
abbrev zgH (xs:List TCursor):Prop:=∀ (q:Int) (sto:List (List D)) (h:xs.length<=34359738368) (h2:lsum TCursor.n xs<=34359738368) (h3:0<=q) (h4:q + ((lsum TCursor.m xs:Nat):Int)<=1099511627776),zaa T 141 [.sl true 4 (xs.map (TCursor.e true)),.int .i64 q] sto=some (.int .i64 (zab TCursor.nx xs q),[.sl true 4 ((mkL TCursor.mk_ TCursor.nx xs q).map (TCursor.e true))],sto)
theorem zlT {R:Type} (e:En R) (sto:List (List D)) (k:List Fr):∀ (rest pre:List TCursor) (i q:Int),(∀ y ∈ rest,zgH y.Kids)->i=pre.length->pre.length + rest.length<=34359738368->lsum TCursor.n rest<=34359738368->0<=q->q + ((lsum TCursor.m rest:Nat):Int)<=1099511627776 ->
  go T e zlE (.lp zrT::.bl 0::.sq (.clr [4,5,6,7,8,9,10,11,12,13,14,15,16,17,18,19,20,21,22,23,24,25,26,27,28,29,30,31,32,33,34,35,36,37,38,39])::k) ⟨[.d (.sl true 4 (pre.map (TCursor.e true)++rest.map (TCursor.e true))),.d (.int .i64 q),Z,Z,Z,.d (.int .i64 i),Z,Z,Z,Z,Z,Z,Z,Z,Z,Z,Z,Z,Z,Z,Z,Z,Z,Z,Z,Z,Z,Z,Z,Z,Z,Z,Z,Z,Z,Z,Z,Z,Z,Z,Z],sto⟩=bk T e k ⟨[.d (.sl true 4 (pre.map (TCursor.e true)++(mkL TCursor.mk_ TCursor.nx rest q).map (TCursor.e true))),.d (.int .i64 (zab TCursor.nx rest q)),Z,Z,Z,Z,Z,Z,Z,Z,Z,Z,Z,Z,Z,Z,Z,Z,Z,Z,Z,Z,Z,Z,Z,Z,Z,Z,Z,Z,Z,Z,Z,Z,Z,Z,Z,Z,Z,Z,Z],sto⟩:=by
 intro rest
 induction rest with
 | nil =>
  intro pre i q hq hi h1 h2 h3 h4
  have ht:i.toNat=pre.length:=by omega
  unfold zlE
  simp (maxSteps:=9999999) (disch:=omega) only [vx,px,ty,↓reduceIte,seval,fx,go_lpc,mkL,zab]
 | cons x rest ih =>
  intro pre i q hq hi h1 h2 h3 h4
  have ht:i.toNat=pre.length:=by omega
  have zgI:=hq x (List.mem_cons_self ..)
  simp only [zae,TCursor.m_eq,TCursor.n_eq] at h2 h4
  rw [List.length_cons] at h1
  have hf0:=zao TValue.nxm x.Vals (q + 1 + 1)
  have hf1:=zao TCursor.nxm x.Kids (zab TValue.nx x.Vals (q + 1 + 1))
  have hnx:=TCursor.nxm x q
  have h:=ih (pre++[TCursor.mk_ x q]) (i + 1) (TCursor.nx x q) (fun y hy=>hq y (List.mem_cons_of_mem _ hy)) (by simp;omega) (by simp;omega) (by omega) (by omega) (by simp only [hnx,TCursor.m_eq];omega)
  simp only [zaG] at h
  simp only [TCursor.e_eq,TCursor.mk_eq,TCursor.nx_eq] at h
  simp only [mkL,zab,List.map_cons]
  unfold zlE
  simp (maxSteps:=9999999) (disch:=omega) only [vx,px,ty,↓reduceIte,seval,fx,vxd,Nat.reduceBNe,go_lpc,ht,ifT,zgI,zhi]
  try simp only [TCursor.e_eq,TCursor.mk_eq,TCursor.nx_eq]
  exact h
theorem zhN (xs:List TCursor) (hq:∀ y ∈ xs,zgH y.Kids) (q:Int) (sto:List (List D)) (h:xs.length<=34359738368) (h2:lsum TCursor.n xs<=34359738368) (h3:0<=q) (h4:q + ((lsum TCursor.m xs:Nat):Int)<=1099511627776):zaa T 141 [.sl true 4 (xs.map (TCursor.e true)),.int .i64 q] sto=some (.int .i64 (zab TCursor.nx xs q),[.sl true 4 ((mkL TCursor.mk_ TCursor.nx xs q).map (TCursor.e true))],sto):=by
 rw [zaf T (g:=v141) rfl rfl rfl _ _ rfl]
 simp (maxSteps:=9999999) (disch:=omega) only [vx,px,ty,↓reduceIte,seval,fx,v141,zwK,go_lpc]
 have hl:=fun k=>zlT (enF [.tmp 4] [0]) sto k xs [] 0 q hq rfl (by simp;omega) h2 h3 h4
 simp only [List.map_nil,List.nil_append] at hl
 rw [hl]
 simp (maxSteps:=9999999) (disch:=omega) only [vx,px,ty,↓reduceIte,seval,fx]
theorem zkl:∀ x:TCursor,zgH x.Kids:=TCursor.ind fun x ih=>by
 intro q sto h h2 h3 h4
 exact zhN x.Kids ih q sto h h2 h3 h4
theorem zgI (xs:List TCursor) (q:Int) (sto:List (List D)) (h:xs.length<=34359738368) (h2:lsum TCursor.n xs<=34359738368) (h3:0<=q) (h4:q + ((lsum TCursor.m xs:Nat):Int)<=1099511627776):zaa T 141 [.sl true 4 (xs.map (TCursor.e true)),.int .i64 q] sto=some (.int .i64 (zab TCursor.nx xs q),[.sl true 4 ((mkL TCursor.mk_ TCursor.nx xs q).map (TCursor.e true))],sto):=zhN xs (fun y _=>zkl y) q sto h h2 h3 h4
theorem zlU {R:Type} (e:En R) (sto:List (List D)) (k:List Fr):∀ (rest pre:List TCoexpr) (i q:Int),i=pre.length->pre.length + rest.length<=34359738368->lsum TCoexpr.n rest<=34359738368->0<=q->q + ((lsum TCoexpr.m rest:Nat):Int)<=1099511627776 ->
  go T e zoX (.lp zvP::.bl 0::.sq (.clr [4,5,6,7,8,9,10,11,12,13,14,15,16,17,18,19,20,21,22,23,24,25,26,27,28,29,30,31,32,33,34,35,36,37,38,39,40,41,42,43,44,45,46,47,48,49,50,51,52,53,54,55,56,57,58,59,60,61,62,63,64,65,66,67,68,69,70,71,72,73,74,75,76,77,78,79,80,81,82,83,84,85,86,87,88,89,90,91,92,93,94,95,96,97,98,99,100,101,102,103,104,105,106,107,108,109,110,111,112,113,114,115,116,117,118,119,120,121,122,123,124,125,126,127,128,129,130,131,132,133,134,135,136,137,138,139,140,141,142,143,144,145,146,147,148,149,150])::k) ⟨[.d (.sl true 17 (pre.map (TCoexpr.e true)++rest.map (TCoexpr.e true))),.d (.int .i64 q),Z,Z,Z,.d (.int .i64 i),Z,Z,Z,Z,Z,Z,Z,Z,Z,Z,Z,Z,Z,Z,Z,Z,Z,Z,Z,Z,Z,Z,Z,Z,Z,Z,Z,Z,Z,Z,Z,Z,Z,Z,Z,Z,Z,Z,Z,Z,Z,Z,Z,Z,Z,Z,Z,Z,Z,Z,Z,Z,Z,Z,Z,Z,Z,Z,Z,Z,Z,Z,Z,Z,Z,Z,Z,Z,Z,Z,Z,Z,Z,Z,Z,Z,Z,Z,Z,Z,Z,Z,Z,Z,Z,Z,Z,Z,Z,Z,Z,Z,Z,Z,Z,Z,Z,Z,Z,Z,Z,Z,Z,Z,Z,Z,Z,Z,Z,Z,Z,Z,Z,Z,Z,Z,Z,Z,Z,Z,Z,Z,Z,Z,Z,Z,Z,Z,Z,Z,Z,Z,Z,Z,Z,Z,Z,Z,Z,Z,Z,Z,Z,Z,Z,Z],sto⟩=bk T e k ⟨[.d (.sl true 17 (pre.map (TCoexpr.e true)++(mkL TCoexpr.mk_ TCoexpr.nx rest q).map (TCoexpr.e true))),.d (.int .i64 (zab TCoexpr.nx rest q)),Z,Z,Z,Z,Z,Z,Z,Z,Z,Z,Z,Z,Z,Z,Z,Z,Z,Z,Z,Z,Z,Z,Z,Z,Z,Z,Z,Z,Z,Z,Z,Z,Z,Z,Z,Z,Z,Z,Z,Z,Z,Z,Z,Z,Z,Z,Z,Z,Z,Z,Z,Z,Z,Z,Z,Z,Z,Z,Z,Z,Z,Z,Z,Z,Z,Z,Z,Z,Z,Z,Z,Z,Z,Z,Z,Z,Z,Z,Z,Z,Z,Z,Z,Z,Z,Z,Z,Z,Z,Z,Z,Z,Z,Z,Z,Z,Z,Z,Z,Z,Z,Z,Z,Z,Z,Z,Z,Z,Z,Z,Z,Z,Z,Z,Z,Z,Z,Z,Z,Z,Z,Z,Z,Z,Z,Z,Z,Z,Z,Z,Z,Z,Z,Z,Z,Z,Z,Z,Z,Z,Z,Z,Z,Z,Z,Z,Z,Z,Z,Z],sto⟩:=by
 intro rest
 induction rest with
 | nil =>
  intro pre i q hi h1 h2 h3 h4
  have ht:i.toNat=pre.length:=by omega
  unfold zoX
  simp (maxSteps:=9999999) (disch:=omega) only [vx,px,ty,↓reduceIte,seval,fx,go_lpc,mkL,zab]
 | cons x rest ih =>
  intro pre i q hi h1 h2 h3 h4
  have ht:i.toNat=pre.length:=by omega
  simp only [zae,TCoexpr.m,TCoexpr.n,TGen.m_eq,TGen.n_eq,TValue.m,TValue.n,TCursor.m_eq,TCursor.n_eq] at h2 h4
  rw [List.length_cons] at h1
  have hf0:=zao TGen.nxm x.Body.Kids (q + 1 + 1 + 1 + 1 + 1 + 1 + 1 + 1)
  have hf1:=zao TBinding.nxm x.Start (zab TGen.nx x.Body.Kids (q + 1 + 1 + 1 + 1 + 1 + 1 + 1 + 1))
  have hf2:=zao TBinding.nxm x.Vars (zab TBinding.nx x.Start (zab TGen.nx x.Body.Kids (q + 1 + 1 + 1 + 1 + 1 + 1 + 1 + 1)))
  have hf3:=zao TValue.nxm x.Cursor.Vals (zab TBinding.nx x.Vars (zab TBinding.nx x.Start (zab TGen.nx x.Body.Kids (q + 1 + 1 + 1 + 1 + 1 + 1 + 1 + 1))) + 1 + 1)
  have hf4:=zao TCursor.nxm x.Cursor.Kids (zab TValue.nx x.Cursor.Vals (zab TBinding.nx x.Vars (zab TBinding.nx x.Start (zab TGen.nx x.Body.Kids (q + 1 + 1 + 1 + 1 + 1 + 1 + 1 + 1))) + 1 + 1))
  have hnx:=TCoexpr.nxm x q
  have h:=ih (pre++[TCoexpr.mk_ x q]) (i + 1) (TCoexpr.nx x q) (by simp;omega) (by simp;omega) (by omega) (by omega) (by simp only [hnx,TCoexpr.m,TGen.m_eq,TGen.n_eq,TValue.m,TValue.n,TCursor.m_eq,TCursor.n_eq];omega)
  simp only [zaG] at h
  simp only [mkL,zab,List.map_cons]
  unfold zoX
  simp (maxSteps:=9999999) (disch:=omega) only [vx,px,ty,↓reduceIte,seval,fx,vxd,Nat.reduceBNe,go_lpc,ht,ifT,zhM,zgI,ziV,zcU,zhi]
  exact h
theorem zlV (xs:List TCoexpr) (q:Int) (sto:List (List D)) (h:xs.length<=34359738368) (h2:lsum TCoexpr.n xs<=34359738368) (h3:0<=q) (h4:q + ((lsum TCoexpr.m xs:Nat):Int)<=1099511627776):zaa T 66 [.sl true 17 (xs.map (TCoexpr.e true)),.int .i64 q] sto=some (.int .i64 (zab TCoexpr.nx xs q),[.sl true 17 ((mkL TCoexpr.mk_ TCoexpr.nx xs q).map (TCoexpr.e true))],sto):=by
 rw [zaf T (g:=v66) rfl rfl rfl _ _ rfl]
 simp (maxSteps:=9999999) (disch:=omega) only [vx,px,ty,↓reduceIte,seval,fx,v66,zAN,go_lpc]
 have hl:=fun k=>zlU (enF [.tmp 4] [0]) sto k xs [] 0 q rfl (by simp;omega) h2 h3 h4
 simp only [List.map_nil,List.nil_append] at hl
 rw [hl]
 simp (maxSteps:=9999999) (disch:=omega) only [vx,px,ty,↓reduceIte,seval,fx]
theorem zeT (x:TGenScope) (q:Int) (sto:List (List D)) (h:TGenScope.n x<=34359738368) (h3:0<=q) (h4:q + ((lsum TBinding.m x.Vars + lsum TObject.m x.Heap.Objects + lsum TCoexpr.m x.Cos:Nat):Int)<=1099511627776):zaa T 23 [D.agg [D.sl true 5 (List.map (TBinding.e false) x.Vars),D.int .i64 x.Heap.Next,D.sl true 10 (List.map (TObject.e true) x.Heap.Objects),D.sl true 17 (List.map (TCoexpr.e true) x.Cos),D.int .i64 x.Steps],.int .i64 q] sto=some (.int .i64 (zab TCoexpr.nx x.Cos (zab TObject.nx x.Heap.Objects (zab TBinding.nx x.Vars (q)))),[D.agg [D.sl true 5 (List.map (TBinding.e false) (mkL TBinding.mk_ TBinding.nx x.Vars (q))),D.int .i64 x.Heap.Next,D.sl true 10 (List.map (TObject.e true) (mkL TObject.mk_ TObject.nx x.Heap.Objects (zab TBinding.nx x.Vars (q)))),D.sl true 17 (List.map (TCoexpr.e true) (mkL TCoexpr.mk_ TCoexpr.nx x.Cos (zab TObject.nx x.Heap.Objects (zab TBinding.nx x.Vars (q))))),D.int .i64 x.Steps]],sto):=by
 simp only [TGenScope.n] at h
 have hfVarsx:=zao TBinding.nxm x.Vars (q)
 have hfObjectsx_Heap:=zao TObject.nxm x.Heap.Objects (zab TBinding.nx x.Vars (q))
 have hfCosx:=zao TCoexpr.nxm x.Cos (zab TObject.nx x.Heap.Objects (zab TBinding.nx x.Vars (q)))
 have hmk:T.mrk 23=some [(0,.one,65),(1,(.many 2),44),(3,.one,66)]:=rfl
 rw [zkI T rfl hmk]
 simp (maxSteps:=9999999) (disch:=omega) only [vx,px,ty,↓reduceIte,seval,fx,zjJ,zgd,zdA,zhD,BK.width,List.replicate,zhM,zlV,zpX]
end Go.Vx.RmZ

