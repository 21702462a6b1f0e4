/-
  The laws' own functions: mark.
-/
import Derived.Test.YtapepbhnleekbaaGreatDoorTypes
import Derived.Test.YtapepbhnleekbaaGreatDoorCode
set_option linter.unusedVariables false
set_option linter.unusedSimpArgs false
namespace Go.Vx.WvZ
set_option maxRecDepth 4000
set_option maxHeartbeats 4000000
theorem zqh {R:Type} (e:En R) (sto:List (List D)) (k:List Fr):∀ (f q:Nat) (acc:ByteArray),q<=f->acc.size + q<=4611686018427387904 ->
  go T e zjz (.lp zsC::.bl 0::.sq (.clr [2,4,5,6,7,8,9,10,11,12,13,14,15,16,17])::k) ⟨[.d (.int .i64 q),Z,Z,.d (.str acc),Z,Z,Z,Z,Z,Z,Z,Z,Z,Z,Z,Z,Z,Z,Z,Z],sto⟩=bk T e k ⟨[.d (.int .i64 0),Z,Z,.d (.str (digs f q acc)),Z,Z,Z,Z,Z,Z,Z,Z,Z,Z,Z,Z,Z,Z,Z,Z],sto⟩:=by
 intro f
 induction f with
 | zero =>
  intro q acc h1 h2
  obtain rfl:q=0:=by omega
  unfold zjz
  simp (maxSteps:=9999999) (disch:=omega) only [vx,px,ty,↓reduceIte,seval,fx,go_lpc,digs]
  try rfl
 | succ f ih =>
  intro q acc h1 h2
  by_cases hq:q=0
  ·subst hq
   unfold zjz
   simp (maxSteps:=9999999) (disch:=omega) only [vx,px,ty,↓reduceIte,seval,fx,go_lpc,digs]
   try rfl
  ·have e1:((q:Int)).tmod 10=((q % 10:Nat):Int):=rfl
   have e2:((q:Int)).tdiv 10=((q / 10:Nat):Int):=rfl
   have e3:IntKind.wrap .u8 (48 + ((q % 10:Nat):Int))=((48 + q % 10:Nat):Int):=by
    simp only [IntKind.wrap,IntKind.signed,IntKind.bits];simp;omega
   have e4:(((48 + q % 10:Nat):Int)).toNat.toUInt8=(48 + q % 10).toUInt8:=by rw [Int.toNat_natCast]
   have e5:((⟨#[(48 + q % 10).toUInt8]⟩:ByteArray)).size=1:=rfl
   have e6:(⟨#[(48 + q % 10).toUInt8]⟩:ByteArray).size + acc.size<=zfH:=by rw [e5];unfold zfH;omega
   have e7:(⟨#[(48 + q % 10).toUInt8]⟩++acc:ByteArray).size=1 + acc.size:=by rw [ByteArray.size_append];rfl
   have h:=ih (q / 10) (⟨#[(48 + q % 10).toUInt8]⟩++acc) (by omega) (by rw [e7];omega)
   unfold zjz
   simp (maxSteps:=9999999) (disch:=omega) only [vx,px,ty,↓reduceIte,seval,fx,go_lpc,digs,e1,e2,e3,hq,zhc,e4,e6,ifF,ifT]
   exact h
theorem zbh (k:Int) (sto:List (List D)) (h:0<=k) (h2:k<=1099511627776):zab T 182 [.int .i64 k] sto=some (.str (mt k),[],sto):=by
 by_cases hk:k<=0
 ·obtain rfl:k=0:=by omega
  rw [zac T (g:=v182) rfl rfl rfl _ _ rfl]
  simp (maxSteps:=9999999) (disch:=omega) only [vx,px,ty,↓reduceIte,seval,fx,v182,zsD,go_lpc]
  rfl
 ·have hl:=fun kk=>zqh (enF [.tmp 2] []) sto kk k.toNat k.toNat ⟨#[]⟩ (Nat.le_refl _) (by have:(⟨#[]⟩:ByteArray).size=0:=rfl;omega)
  have ek:((k.toNat:Nat):Int)=k:=by omega
  rw [ek] at hl
  have hd:∀ (f q:Nat) (acc:ByteArray),q<=f->(digs f q acc).size<=acc.size + q:=by
   intro f
   induction f with
   | zero=>intro q acc _;simp [digs]
   | succ f ih =>
    intro q acc hq
    simp only [digs]
    split
    ·omega
    ·rename_i hne
     have:=ih (q / 10) (⟨#[(48 + q % 10).toUInt8]⟩++acc) (by omega)
     have e7:(⟨#[(48 + q % 10).toUInt8]⟩++acc:ByteArray).size=1 + acc.size:=by rw [ByteArray.size_append];rfl
     omega
  have hs:=hd k.toNat k.toNat ⟨#[]⟩ (Nat.le_refl _)
  have hz:(⟨#[]⟩:ByteArray).size=0:=rfl
  have hm:(⟨#[109]⟩:ByteArray).size + (digs k.toNat k.toNat ⟨#[]⟩).size<=zfH:=by
   have:(⟨#[109]⟩:ByteArray).size=1:=rfl
   rw [this];unfold zfH;omega
  rw [zac T (g:=v182) rfl rfl rfl _ _ rfl]
  simp (maxSteps:=9999999) (disch:=omega) only [vx,px,ty,↓reduceIte,seval,fx,v182,zsD,go_lpc]
  rw [hl]
  simp (maxSteps:=9999999) (disch:=omega) only [vx,px,ty,↓reduceIte,seval,fx,hm,mt,hk,ifF]
theorem zlJ {R:Type} (e:En R) (sto:List (List D)) (k:List Fr):∀ (rest pre:List ByteArray) (i q:Int),i=pre.length->pre.length + rest.length<=34359738368->lsum ByteArray.size rest<=34359738368->0<=q->q + ((lsum (fun _=>1) rest:Nat):Int)<=1099511627776 ->
  go T e zpm (.lp zwM::.bl 0::.sq (.clr [4,5,6,7,8,9,10,11,12,13,14,15,16,17,18])::k) ⟨[.d (.sl true 1 (pre.map D.str++rest.map D.str)),.d (.int .i64 q),Z,Z,Z,.d (.int .i64 i),Z,Z,Z,Z,Z,Z,Z,Z,Z,Z,Z,Z,Z,Z],sto⟩=bk T e k ⟨[.d (.sl true 1 (pre.map D.str++(mkL (fun _ k=>mt k) (fun _ k=>k + 1) rest q).map D.str)),.d (.int .i64 (zaa (fun _ k=>k + 1) rest q)),Z,Z,Z,Z,Z,Z,Z,Z,Z,Z,Z,Z,Z,Z,Z,Z,Z,Z],sto⟩:=by
 intro rest
 induction rest with
 | nil =>
  intro pre i q hi h1 h2 h3 h4
  have ht:i.toNat=pre.length:=by omega
  unfold zpm
  simp (maxSteps:=9999999) (disch:=omega) only [vx,px,ty,↓reduceIte,seval,fx,go_lpc,mkL,zaa]
 | cons x rest ih =>
  intro pre i q hi h1 h2 h3 h4
  have ht:i.toNat=pre.length:=by omega
  simp only [zag] at h2 h4
  rw [List.length_cons] at h1
  have h:=ih (pre++[mt q]) (i + 1) (q + 1) (by simp;omega) (by simp;omega) (by omega) (by omega) (by omega)
  simp only [zav] at h
  simp only [mkL,zaa,List.map_cons]
  unfold zpm
  simp (maxSteps:=9999999) (disch:=omega) only [vx,px,ty,↓reduceIte,seval,fx,vxd,Nat.reduceBNe,go_lpc,ht,ifT,zbh]
  exact h
theorem zeK (xs:List ByteArray) (q:Int) (sto:List (List D)) (h:xs.length<=34359738368) (h2:lsum ByteArray.size xs<=34359738368) (h3:0<=q) (h4:q + ((lsum (fun _=>1) xs:Nat):Int)<=1099511627776):zab T 99 [.sl true 1 (xs.map D.str),.int .i64 q] sto=some (.int .i64 (zaa (fun _ k=>k + 1) xs q),[.sl true 1 ((mkL (fun _ k=>mt k) (fun _ k=>k + 1) xs q).map D.str)],sto):=by
 rw [zac T (g:=v99) rfl rfl rfl _ _ rfl]
 simp (maxSteps:=9999999) (disch:=omega) only [vx,px,ty,↓reduceIte,seval,fx,v99,zCd,go_lpc]
 have hl:=fun k=>zlJ (enF [.tmp 4] [0]) sto k xs [] 0 q rfl (by simp;omega) h2 h3 h4
 simp only [List.map_nil,List.nil_append] at hl
 rw [hl]
 simp (maxSteps:=9999999) (disch:=omega) only [vx,px,ty,↓reduceIte,seval,fx]
theorem zmO {R:Type} (e:En R) (sto:List (List D)) (k:List Fr):∀ (rest pre:List TValue) (i q:Int),i=pre.length->pre.length + rest.length<=34359738368->lsum TValue.n rest<=34359738368->0<=q->q + ((lsum TValue.m rest:Nat):Int)<=1099511627776 ->
  go T e zlv (.lp zsE::.bl 0::.sq (.clr [4,5,6,7,8,9,10,11,12,13,14,15,16,17,18,19,20,21,22,23,24,25,26,27,28,29,30,31,32,33,34,35,36,37,38,39,40])::k) ⟨[.d (.sl true 4 (pre.map (TValue.e false)++rest.map (TValue.e false))),.d (.int .i64 q),Z,Z,Z,.d (.int .i64 i),Z,Z,Z,Z,Z,Z,Z,Z,Z,Z,Z,Z,Z,Z,Z,Z,Z,Z,Z,Z,Z,Z,Z,Z,Z,Z,Z,Z,Z,Z,Z,Z,Z,Z,Z,Z],sto⟩=bk T e k ⟨[.d (.sl true 4 (pre.map (TValue.e false)++(mkL TValue.mk_ TValue.nx rest q).map (TValue.e false))),.d (.int .i64 (zaa TValue.nx rest q)),Z,Z,Z,Z,Z,Z,Z,Z,Z,Z,Z,Z,Z,Z,Z,Z,Z,Z,Z,Z,Z,Z,Z,Z,Z,Z,Z,Z,Z,Z,Z,Z,Z,Z,Z,Z,Z,Z,Z,Z],sto⟩:=by
 intro rest
 induction rest with
 | nil =>
  intro pre i q hi h1 h2 h3 h4
  have ht:i.toNat=pre.length:=by omega
  unfold zlv
  simp (maxSteps:=9999999) (disch:=omega) only [vx,px,ty,↓reduceIte,seval,fx,go_lpc,mkL,zaa]
 | cons x rest ih =>
  intro pre i q hi h1 h2 h3 h4
  have ht:i.toNat=pre.length:=by omega
  simp only [zag,TValue.m,TValue.n] at h2 h4
  rw [List.length_cons] at h1
  have hnx:=TValue.nxm x q
  have h:=ih (pre++[TValue.mk_ x q]) (i + 1) (TValue.nx x q) (by simp;omega) (by simp;omega) (by omega) (by omega) (by simp only [hnx,TValue.m];omega)
  simp only [zav] at h
  simp only [mkL,zaa,List.map_cons]
  unfold zlv
  simp (maxSteps:=9999999) (disch:=omega) only [vx,px,ty,↓reduceIte,seval,fx,vxd,Nat.reduceBNe,go_lpc,ht,ifT,zbh]
  exact h
theorem zmP (xs:List TValue) (q:Int) (sto:List (List D)) (h:xs.length<=34359738368) (h2:lsum TValue.n xs<=34359738368) (h3:0<=q) (h4:q + ((lsum TValue.m xs:Nat):Int)<=1099511627776):zab T 183 [.sl true 4 (xs.map (TValue.e false)),.int .i64 q] sto=some (.int .i64 (zaa TValue.nx xs q),[.sl true 4 ((mkL TValue.mk_ TValue.nx xs q).map (TValue.e false))],sto):=by
 rw [zac T (g:=v183) rfl rfl rfl _ _ rfl]
 simp (maxSteps:=9999999) (disch:=omega) only [vx,px,ty,↓reduceIte,seval,fx,v183,zyk,go_lpc]
 have hl:=fun k=>zmO (enF [.tmp 4] [0]) sto k xs [] 0 q rfl (by simp;omega) h2 h3 h4
 simp only [List.map_nil,List.nil_append] at hl
 rw [hl]
 simp (maxSteps:=9999999) (disch:=omega) only [vx,px,ty,↓reduceIte,seval,fx]
theorem zlK {R:Type} (e:En R) (sto:List (List D)) (k:List Fr):∀ (rest pre:List TObject) (i q:Int),i=pre.length->pre.length + rest.length<=34359738368->lsum TObject.n rest<=34359738368->0<=q->q + ((lsum TObject.m rest:Nat):Int)<=1099511627776 ->
  go T e zpi (.lp zwI::.bl 0::.sq (.clr [4,5,6,7,8,9,10,11,12,13,14,15,16,17,18,19,20,21,22,23,24,25,26,27,28,29,30,31,32,33,34,35,36,37,38,39,40,41,42,43,44,45,46,47,48,49,50,51,52,53,54,55,56,57,58,59,60,61,62,63,64,65,66,67,68,69,70,71,72,73,74,75,76,77,78,79,80,81,82,83,84,85,86,87])::k) ⟨[.d (.sl true 10 (pre.map (TObject.e true)++rest.map (TObject.e true))),.d (.int .i64 q),Z,Z,Z,.d (.int .i64 i),Z,Z,Z,Z,Z,Z,Z,Z,Z,Z,Z,Z,Z,Z,Z,Z,Z,Z,Z,Z,Z,Z,Z,Z,Z,Z,Z,Z,Z,Z,Z,Z,Z,Z,Z,Z,Z,Z,Z,Z,Z,Z,Z,Z,Z,Z,Z,Z,Z,Z,Z,Z,Z,Z,Z,Z,Z,Z,Z,Z,Z,Z,Z,Z,Z,Z,Z,Z,Z,Z,Z,Z,Z,Z,Z,Z,Z,Z,Z,Z,Z,Z,Z],sto⟩=bk T e k ⟨[.d (.sl true 10 (pre.map (TObject.e true)++(mkL TObject.mk_ TObject.nx rest q).map (TObject.e true))),.d (.int .i64 (zaa TObject.nx rest q)),Z,Z,Z,Z,Z,Z,Z,Z,Z,Z,Z,Z,Z,Z,Z,Z,Z,Z,Z,Z,Z,Z,Z,Z,Z,Z,Z,Z,Z,Z,Z,Z,Z,Z,Z,Z,Z,Z,Z,Z,Z,Z,Z,Z,Z,Z,Z,Z,Z,Z,Z,Z,Z,Z,Z,Z,Z,Z,Z,Z,Z,Z,Z,Z,Z,Z,Z,Z,Z,Z,Z,Z,Z,Z,Z,Z,Z,Z,Z,Z,Z,Z,Z,Z,Z,Z,Z],sto⟩:=by
 intro rest
 induction rest with
 | nil =>
  intro pre i q hi h1 h2 h3 h4
  have ht:i.toNat=pre.length:=by omega
  unfold zpi
  simp (maxSteps:=9999999) (disch:=omega) only [vx,px,ty,↓reduceIte,seval,fx,go_lpc,mkL,zaa]
 | cons x rest ih =>
  intro pre i q hi h1 h2 h3 h4
  have ht:i.toNat=pre.length:=by omega
  simp only [zag,TObject.m,TObject.n,TValue.m,TValue.n] at h2 h4
  rw [List.length_cons] at h1
  have hf0:=zas TValue.nxm x.Keys (q + 1 + 1 + 1 + 1)
  have hf1:=zas TValue.nxm x.Vals (zaa TValue.nx x.Keys (q + 1 + 1 + 1 + 1))
  have hnx:=TObject.nxm x q
  have h:=ih (pre++[TObject.mk_ x q]) (i + 1) (TObject.nx x q) (by simp;omega) (by simp;omega) (by omega) (by omega) (by simp only [hnx,TObject.m,TValue.m,TValue.n];omega)
  simp only [zav] at h
  simp only [mkL,zaa,List.map_cons]
  unfold zpi
  simp (maxSteps:=9999999) (disch:=omega) only [vx,px,ty,↓reduceIte,seval,fx,vxd,Nat.reduceBNe,go_lpc,ht,ifT,zbh,zmP]
  exact h
theorem zlL (xs:List TObject) (q:Int) (sto:List (List D)) (h:xs.length<=34359738368) (h2:lsum TObject.n xs<=34359738368) (h3:0<=q) (h4:q + ((lsum TObject.m xs:Nat):Int)<=1099511627776):zab T 95 [.sl true 10 (xs.map (TObject.e true)),.int .i64 q] sto=some (.int .i64 (zaa TObject.nx xs q),[.sl true 10 ((mkL TObject.mk_ TObject.nx xs q).map (TObject.e true))],sto):=by
 rw [zac T (g:=v95) rfl rfl rfl _ _ rfl]
 simp (maxSteps:=9999999) (disch:=omega) only [vx,px,ty,↓reduceIte,seval,fx,v95,zBZ,go_lpc]
 have hl:=fun k=>zlK (enF [.tmp 4] [0]) sto k xs [] 0 q rfl (by simp;omega) h2 h3 h4
 simp only [List.map_nil,List.nil_append] at hl
 rw [hl]
 simp (maxSteps:=9999999) (disch:=omega) only [vx,px,ty,↓reduceIte,seval,fx]
theorem zqi (x:THeap) (q:Int) (sto:List (List D)) (h:THeap.n x<=34359738368) (h3:0<=q) (h4:q + ((lsum TObject.m x.Objects:Nat):Int)<=1099511627776):zab T 37 [D.agg [D.int .i64 x.Next,D.sl true 10 (List.map (TObject.e true) x.Objects)],.int .i64 q] sto=some (.int .i64 (zaa TObject.nx x.Objects (q)),[D.agg [D.int .i64 x.Next,D.sl true 10 (List.map (TObject.e true) (mkL TObject.mk_ TObject.nx x.Objects (q)))]],sto):=by
 simp only [THeap.n] at h
 have hfObjectsx:=zas TObject.nxm x.Objects (q)
 have hmk:T.mrk 37=some [(1,.one,95)]:=rfl
 rw [zgP T rfl hmk]
 simp (maxSteps:=9999999) (disch:=omega) only [vx,px,ty,↓reduceIte,seval,fx,zie,zeU,zcE,zgo,BK.width,List.replicate,zlL]
theorem zkk {R:Type} (e:En R) (sto:List (List D)) (k:List Fr):∀ (rest pre:List TBinding) (i q:Int),i=pre.length->pre.length + rest.length<=34359738368->lsum TBinding.n rest<=34359738368->0<=q->q + ((lsum TBinding.m rest:Nat):Int)<=1099511627776 ->
  go T e zpj (.lp zwJ::.bl 0::.sq (.clr [4,5,6,7,8,9,10,11,12,13,14,15,16,17,18,19,20,21,22,23,24,25,26,27,28,29,30,31,32,33,34,35,36,37,38,39,40,41,42,43,44,45,46,47,48,49,50,51,52])::k) ⟨[.d (.sl true 5 (pre.map (TBinding.e false)++rest.map (TBinding.e false))),.d (.int .i64 q),Z,Z,Z,.d (.int .i64 i),Z,Z,Z,Z,Z,Z,Z,Z,Z,Z,Z,Z,Z,Z,Z,Z,Z,Z,Z,Z,Z,Z,Z,Z,Z,Z,Z,Z,Z,Z,Z,Z,Z,Z,Z,Z,Z,Z,Z,Z,Z,Z,Z,Z,Z,Z,Z,Z],sto⟩=bk T e k ⟨[.d (.sl true 5 (pre.map (TBinding.e false)++(mkL TBinding.mk_ TBinding.nx rest q).map (TBinding.e false))),.d (.int .i64 (zaa TBinding.nx rest q)),Z,Z,Z,Z,Z,Z,Z,Z,Z,Z,Z,Z,Z,Z,Z,Z,Z,Z,Z,Z,Z,Z,Z,Z,Z,Z,Z,Z,Z,Z,Z,Z,Z,Z,Z,Z,Z,Z,Z,Z,Z,Z,Z,Z,Z,Z,Z,Z,Z,Z,Z,Z],sto⟩:=by
 intro rest
 induction rest with
 | nil =>
  intro pre i q hi h1 h2 h3 h4
  have ht:i.toNat=pre.length:=by omega
  unfold zpj
  simp (maxSteps:=9999999) (disch:=omega) only [vx,px,ty,↓reduceIte,seval,fx,go_lpc,mkL,zaa]
 | cons x rest ih =>
  intro pre i q hi h1 h2 h3 h4
  have ht:i.toNat=pre.length:=by omega
  simp only [zag,TBinding.m,TBinding.n,TValue.m,TValue.n] at h2 h4
  rw [List.length_cons] at h1
  have hnx:=TBinding.nxm x q
  have h:=ih (pre++[TBinding.mk_ x q]) (i + 1) (TBinding.nx x q) (by simp;omega) (by simp;omega) (by omega) (by omega) (by simp only [hnx,TBinding.m,TValue.m,TValue.n];omega)
  simp only [zav] at h
  simp only [mkL,zaa,List.map_cons]
  unfold zpj
  simp (maxSteps:=9999999) (disch:=omega) only [vx,px,ty,↓reduceIte,seval,fx,vxd,Nat.reduceBNe,go_lpc,ht,ifT,zbh]
  exact h
theorem zkl (xs:List TBinding) (q:Int) (sto:List (List D)) (h:xs.length<=34359738368) (h2:lsum TBinding.n xs<=34359738368) (h3:0<=q) (h4:q + ((lsum TBinding.m xs:Nat):Int)<=1099511627776):zab T 96 [.sl true 5 (xs.map (TBinding.e false)),.int .i64 q] sto=some (.int .i64 (zaa TBinding.nx xs q),[.sl true 5 ((mkL TBinding.mk_ TBinding.nx xs q).map (TBinding.e false))],sto):=by
 rw [zac T (g:=v96) rfl rfl rfl _ _ rfl]
 simp (maxSteps:=9999999) (disch:=omega) only [vx,px,ty,↓reduceIte,seval,fx,v96,zCa,go_lpc]
 have hl:=fun k=>zkk (enF [.tmp 4] [0]) sto k xs [] 0 q rfl (by simp;omega) h2 h3 h4
 simp only [List.map_nil,List.nil_append] at hl
 rw [hl]
 simp (maxSteps:=9999999) (disch:=omega) only [vx,px,ty,↓reduceIte,seval,fx]
theorem zjJ {R:Type} (e:En R) (sto:List (List D)) (k:List Fr):∀ (rest pre:List TFunction) (i q:Int),i=pre.length->pre.length + rest.length<=34359738368->lsum TFunction.n rest<=34359738368->0<=q->q + ((lsum TFunction.m rest:Nat):Int)<=1099511627776 ->
  go T e zpk (.lp zwK::.bl 0::.sq (.clr [4,5,6,7,8,9,10,11,12,13,14,15,16,17,18,19,20,21,22,23,24,25,26,27,28,29,30,31,32,33,34,35,36,37,38,39,40,41])::k) ⟨[.d (.sl true 4 (pre.map (TFunction.e true)++rest.map (TFunction.e true))),.d (.int .i64 q),Z,Z,Z,.d (.int .i64 i),Z,Z,Z,Z,Z,Z,Z,Z,Z,Z,Z,Z,Z,Z,Z,Z,Z,Z,Z,Z,Z,Z,Z,Z,Z,Z,Z,Z,Z,Z,Z,Z,Z,Z,Z,Z,Z],sto⟩=bk T e k ⟨[.d (.sl true 4 (pre.map (TFunction.e true)++(mkL TFunction.mk_ TFunction.nx rest q).map (TFunction.e true))),.d (.int .i64 (zaa TFunction.nx rest q)),Z,Z,Z,Z,Z,Z,Z,Z,Z,Z,Z,Z,Z,Z,Z,Z,Z,Z,Z,Z,Z,Z,Z,Z,Z,Z,Z,Z,Z,Z,Z,Z,Z,Z,Z,Z,Z,Z,Z,Z,Z],sto⟩:=by
 intro rest
 induction rest with
 | nil =>
  intro pre i q hi h1 h2 h3 h4
  have ht:i.toNat=pre.length:=by omega
  unfold zpk
  simp (maxSteps:=9999999) (disch:=omega) only [vx,px,ty,↓reduceIte,seval,fx,go_lpc,mkL,zaa]
 | cons x rest ih =>
  intro pre i q hi h1 h2 h3 h4
  have ht:i.toNat=pre.length:=by omega
  simp only [zag,TFunction.m,TFunction.n] at h2 h4
  rw [List.length_cons] at h1
  have hf0:=zat x.Params (q + 1)
  have hf1:=zat x.Locals (zaa (fun _ k=>k + 1) x.Params (q + 1))
  have hnx:=TFunction.nxm x q
  have h:=ih (pre++[TFunction.mk_ x q]) (i + 1) (TFunction.nx x q) (by simp;omega) (by simp;omega) (by omega) (by omega) (by simp only [hnx,TFunction.m];omega)
  simp only [zav] at h
  simp only [mkL,zaa,List.map_cons]
  unfold zpk
  simp (maxSteps:=9999999) (disch:=omega) only [vx,px,ty,↓reduceIte,seval,fx,vxd,Nat.reduceBNe,go_lpc,ht,ifT,zeK,zbh]
  exact h
theorem zjK (xs:List TFunction) (q:Int) (sto:List (List D)) (h:xs.length<=34359738368) (h2:lsum TFunction.n xs<=34359738368) (h3:0<=q) (h4:q + ((lsum TFunction.m xs:Nat):Int)<=1099511627776):zab T 97 [.sl true 4 (xs.map (TFunction.e true)),.int .i64 q] sto=some (.int .i64 (zaa TFunction.nx xs q),[.sl true 4 ((mkL TFunction.mk_ TFunction.nx xs q).map (TFunction.e true))],sto):=by
 rw [zac T (g:=v97) rfl rfl rfl _ _ rfl]
 simp (maxSteps:=9999999) (disch:=omega) only [vx,px,ty,↓reduceIte,seval,fx,v97,zCb,go_lpc]
 have hl:=fun k=>zjJ (enF [.tmp 4] [0]) sto k xs [] 0 q rfl (by simp;omega) h2 h3 h4
 simp only [List.map_nil,List.nil_append] at hl
 rw [hl]
 simp (maxSteps:=9999999) (disch:=omega) only [vx,px,ty,↓reduceIte,seval,fx]
theorem zis {R:Type} (e:En R) (sto:List (List D)) (k:List Fr):∀ (rest pre:List TRecordType) (i q:Int),i=pre.length->pre.length + rest.length<=34359738368->lsum TRecordType.n rest<=34359738368->0<=q->q + ((lsum TRecordType.m rest:Nat):Int)<=1099511627776 ->
  go T e zpl (.lp zwL::.bl 0::.sq (.clr [4,5,6,7,8,9,10,11,12,13,14,15,16,17,18,19,20,21,22,23,24,25,26])::k) ⟨[.d (.sl true 2 (pre.map (TRecordType.e true)++rest.map (TRecordType.e true))),.d (.int .i64 q),Z,Z,Z,.d (.int .i64 i),Z,Z,Z,Z,Z,Z,Z,Z,Z,Z,Z,Z,Z,Z,Z,Z,Z,Z,Z,Z,Z,Z],sto⟩=bk T e k ⟨[.d (.sl true 2 (pre.map (TRecordType.e true)++(mkL TRecordType.mk_ TRecordType.nx rest q).map (TRecordType.e true))),.d (.int .i64 (zaa TRecordType.nx rest q)),Z,Z,Z,Z,Z,Z,Z,Z,Z,Z,Z,Z,Z,Z,Z,Z,Z,Z,Z,Z,Z,Z,Z,Z,Z,Z],sto⟩:=by
 intro rest
 induction rest with
 | nil =>
  intro pre i q hi h1 h2 h3 h4
  have ht:i.toNat=pre.length:=by omega
  unfold zpl
  simp (maxSteps:=9999999) (disch:=omega) only [vx,px,ty,↓reduceIte,seval,fx,go_lpc,mkL,zaa]
 | cons x rest ih =>
  intro pre i q hi h1 h2 h3 h4
  have ht:i.toNat=pre.length:=by omega
  simp only [zag,TRecordType.m,TRecordType.n] at h2 h4
  rw [List.length_cons] at h1
  have hf0:=zat x.Fields (q + 1)
  have hnx:=TRecordType.nxm x q
  have h:=ih (pre++[TRecordType.mk_ x q]) (i + 1) (TRecordType.nx x q) (by simp;omega) (by simp;omega) (by omega) (by omega) (by simp only [hnx,TRecordType.m];omega)
  simp only [zav] at h
  simp only [mkL,zaa,List.map_cons]
  unfold zpl
  simp (maxSteps:=9999999) (disch:=omega) only [vx,px,ty,↓reduceIte,seval,fx,vxd,Nat.reduceBNe,go_lpc,ht,ifT,zeK,zbh]
  exact h
theorem zit (xs:List TRecordType) (q:Int) (sto:List (List D)) (h:xs.length<=34359738368) (h2:lsum TRecordType.n xs<=34359738368) (h3:0<=q) (h4:q + ((lsum TRecordType.m xs:Nat):Int)<=1099511627776):zab T 98 [.sl true 2 (xs.map (TRecordType.e true)),.int .i64 q] sto=some (.int .i64 (zaa TRecordType.nx xs q),[.sl true 2 ((mkL TRecordType.mk_ TRecordType.nx xs q).map (TRecordType.e true))],sto):=by
 rw [zac T (g:=v98) rfl rfl rfl _ _ rfl]
 simp (maxSteps:=9999999) (disch:=omega) only [vx,px,ty,↓reduceIte,seval,fx,v98,zCc,go_lpc]
 have hl:=fun k=>zis (enF [.tmp 4] [0]) sto k xs [] 0 q rfl (by simp;omega) h2 h3 h4
 simp only [List.map_nil,List.nil_append] at hl
 rw [hl]
 simp (maxSteps:=9999999) (disch:=omega) only [vx,px,ty,↓reduceIte,seval,fx]
theorem znX (x:TScope) (q:Int) (sto:List (List D)) (h:TScope.n x<=34359738368) (h3:0<=q) (h4:q + ((lsum TBinding.m x.Vars + lsum TFunction.m x.Functions + lsum TRecordType.m x.Types:Nat):Int)<=1099511627776):zab T 38 [D.agg [D.sl true 5 (List.map (TBinding.e false) x.Vars),D.sl true 4 (List.map (TFunction.e true) x.Functions),D.sl true 2 (List.map (TRecordType.e true) x.Types)],.int .i64 q] sto=some (.int .i64 (zaa TRecordType.nx x.Types (zaa TFunction.nx x.Functions (zaa TBinding.nx x.Vars (q)))),[D.agg [D.sl true 5 (List.map (TBinding.e false) (mkL TBinding.mk_ TBinding.nx x.Vars (q))),D.sl true 4 (List.map (TFunction.e true) (mkL TFunction.mk_ TFunction.nx x.Functions (zaa TBinding.nx x.Vars (q)))),D.sl true 2 (List.map (TRecordType.e true) (mkL TRecordType.mk_ TRecordType.nx x.Types (zaa TFunction.nx x.Functions (zaa TBinding.nx x.Vars (q)))))]],sto):=by
 simp only [TScope.n] at h
 have hfVarsx:=zas TBinding.nxm x.Vars (q)
 have hfFunctionsx:=zas TFunction.nxm x.Functions (zaa TBinding.nx x.Vars (q))
 have hfTypesx:=zas TRecordType.nxm x.Types (zaa TFunction.nx x.Functions (zaa TBinding.nx x.Vars (q)))
 have hmk:T.mrk 38=some [(0,.one,96),(1,.one,97),(2,.one,98)]:=rfl
 rw [zgP T rfl hmk]
 simp (maxSteps:=9999999) (disch:=omega) only [vx,px,ty,↓reduceIte,seval,fx,zie,zeU,zcE,zgo,BK.width,List.replicate,zkl,zjK,zit]
theorem znY {R:Type} (e:En R) (sto:List (List D)) (k:List Fr):∀ (rest pre:List TFile) (i q:Int),i=pre.length->pre.length + rest.length<=34359738368->lsum TFile.n rest<=34359738368->0<=q->q + ((lsum TFile.m rest:Nat):Int)<=1099511627776 ->
  go T e zlm (.lp zrA::.bl 0::.sq (.clr [4,5,6,7,8,9,10,11,12,13,14,15,16,17,18,19,20,21,22,23,24,25,26,27,28,29,30,31,32,33,34,35,36,37,38,39,40])::k) ⟨[.d (.sl true 4 (pre.map (TFile.e true)++rest.map (TFile.e true))),.d (.int .i64 q),Z,Z,Z,.d (.int .i64 i),Z,Z,Z,Z,Z,Z,Z,Z,Z,Z,Z,Z,Z,Z,Z,Z,Z,Z,Z,Z,Z,Z,Z,Z,Z,Z,Z,Z,Z,Z,Z,Z,Z,Z,Z,Z],sto⟩=bk T e k ⟨[.d (.sl true 4 (pre.map (TFile.e true)++(mkL TFile.mk_ TFile.nx rest q).map (TFile.e true))),.d (.int .i64 (zaa TFile.nx rest q)),Z,Z,Z,Z,Z,Z,Z,Z,Z,Z,Z,Z,Z,Z,Z,Z,Z,Z,Z,Z,Z,Z,Z,Z,Z,Z,Z,Z,Z,Z,Z,Z,Z,Z,Z,Z,Z,Z,Z,Z],sto⟩:=by
 intro rest
 induction rest with
 | nil =>
  intro pre i q hi h1 h2 h3 h4
  have ht:i.toNat=pre.length:=by omega
  unfold zlm
  simp (maxSteps:=9999999) (disch:=omega) only [vx,px,ty,↓reduceIte,seval,fx,go_lpc,mkL,zaa]
 | cons x rest ih =>
  intro pre i q hi h1 h2 h3 h4
  have ht:i.toNat=pre.length:=by omega
  simp only [zag,TFile.m,TFile.n] at h2 h4
  rw [List.length_cons] at h1
  have hf0:=zat x.Lines (q + 1)
  have hnx:=TFile.nxm x q
  have h:=ih (pre++[TFile.mk_ x q]) (i + 1) (TFile.nx x q) (by simp;omega) (by simp;omega) (by omega) (by omega) (by simp only [hnx,TFile.m];omega)
  simp only [zav] at h
  simp only [mkL,zaa,List.map_cons]
  unfold zlm
  simp (maxSteps:=9999999) (disch:=omega) only [vx,px,ty,↓reduceIte,seval,fx,vxd,Nat.reduceBNe,go_lpc,ht,ifT,zeK,zbh]
  exact h
theorem znZ (xs:List TFile) (q:Int) (sto:List (List D)) (h:xs.length<=34359738368) (h2:lsum TFile.n xs<=34359738368) (h3:0<=q) (h4:q + ((lsum TFile.m xs:Nat):Int)<=1099511627776):zab T 100 [.sl true 4 (xs.map (TFile.e true)),.int .i64 q] sto=some (.int .i64 (zaa TFile.nx xs q),[.sl true 4 ((mkL TFile.mk_ TFile.nx xs q).map (TFile.e true))],sto):=by
 rw [zac T (g:=v100) rfl rfl rfl _ _ rfl]
 simp (maxSteps:=9999999) (disch:=omega) only [vx,px,ty,↓reduceIte,seval,fx,v100,zwN,go_lpc]
 have hl:=fun k=>znY (enF [.tmp 4] [0]) sto k xs [] 0 q rfl (by simp;omega) h2 h3 h4
 simp only [List.map_nil,List.nil_append] at hl
 rw [hl]
 simp (maxSteps:=9999999) (disch:=omega) only [vx,px,ty,↓reduceIte,seval,fx]
theorem zlM (x:TConsole) (q:Int) (sto:List (List D)) (h:TConsole.n x<=34359738368) (h3:0<=q) (h4:q + ((lsum (fun _=>1) x.Input + lsum (fun _=>1) x.Output + lsum TFile.m x.Files + lsum (fun _=>1) x.Trace:Nat):Int)<=1099511627776):zab T 39 [D.agg [D.sl true 1 (List.map D.str x.Input),D.int .i64 x.At,D.sl true 1 (List.map D.str x.Output),D.sl true 4 (List.map (TFile.e true) x.Files),D.sl true 1 (List.map D.str x.Trace)],.int .i64 q] sto=some (.int .i64 (zaa (fun _ k=>k + 1) x.Trace (zaa TFile.nx x.Files (zaa (fun _ k=>k + 1) x.Output (zaa (fun _ k=>k + 1) x.Input (q))))),[D.agg [D.sl true 1 (List.map D.str (mkL (fun _ k=>mt k) (fun _ k=>k + 1) x.Input (q))),D.int .i64 x.At,D.sl true 1 (List.map D.str (mkL (fun _ k=>mt k) (fun _ k=>k + 1) x.Output (zaa (fun _ k=>k + 1) x.Input (q)))),D.sl true 4 (List.map (TFile.e true) (mkL TFile.mk_ TFile.nx x.Files (zaa (fun _ k=>k + 1) x.Output (zaa (fun _ k=>k + 1) x.Input (q))))),D.sl true 1 (List.map D.str (mkL (fun _ k=>mt k) (fun _ k=>k + 1) x.Trace (zaa TFile.nx x.Files (zaa (fun _ k=>k + 1) x.Output (zaa (fun _ k=>k + 1) x.Input (q))))))]],sto):=by
 simp only [TConsole.n] at h
 have hfInputx:=zat x.Input (q)
 have hfOutputx:=zat x.Output (zaa (fun _ k=>k + 1) x.Input (q))
 have hfFilesx:=zas TFile.nxm x.Files (zaa (fun _ k=>k + 1) x.Output (zaa (fun _ k=>k + 1) x.Input (q)))
 have hfTracex:=zat x.Trace (zaa TFile.nx x.Files (zaa (fun _ k=>k + 1) x.Output (zaa (fun _ k=>k + 1) x.Input (q))))
 have hmk:T.mrk 39=some [(0,.one,99),(2,.one,99),(3,.one,100),(4,.one,99)]:=rfl
 rw [zgP T rfl hmk]
 simp (maxSteps:=9999999) (disch:=omega) only [vx,px,ty,↓reduceIte,seval,fx,zie,zeU,zcE,zgo,BK.width,List.replicate,znZ,zeK]
theorem ziF (x:TMemory) (q:Int) (sto:List (List D)) (h:TMemory.n x<=34359738368) (h3:0<=q) (h4:q + ((lsum TObject.m x.Heap.Objects + lsum TBinding.m x.Scope.Vars + lsum TFunction.m x.Scope.Functions + lsum TRecordType.m x.Scope.Types + lsum (fun _=>1) x.Console.Input + lsum (fun _=>1) x.Console.Output + lsum TFile.m x.Console.Files + lsum (fun _=>1) x.Console.Trace:Nat):Int)<=1099511627776):zab T 12 [D.agg [D.int .i64 x.Heap.Next,D.sl true 10 (List.map (TObject.e true) x.Heap.Objects),D.sl true 5 (List.map (TBinding.e false) x.Scope.Vars),D.sl true 4 (List.map (TFunction.e true) x.Scope.Functions),D.sl true 2 (List.map (TRecordType.e true) x.Scope.Types),D.sl true 1 (List.map D.str x.Console.Input),D.int .i64 x.Console.At,D.sl true 1 (List.map D.str x.Console.Output),D.sl true 4 (List.map (TFile.e true) x.Console.Files),D.sl true 1 (List.map D.str x.Console.Trace)],.int .i64 q] sto=some (.int .i64 (zaa (fun _ k=>k + 1) x.Console.Trace (zaa TFile.nx x.Console.Files (zaa (fun _ k=>k + 1) x.Console.Output (zaa (fun _ k=>k + 1) x.Console.Input (zaa TRecordType.nx x.Scope.Types (zaa TFunction.nx x.Scope.Functions (zaa TBinding.nx x.Scope.Vars (zaa TObject.nx x.Heap.Objects (q))))))))),[D.agg [D.int .i64 x.Heap.Next,D.sl true 10 (List.map (TObject.e true) (mkL TObject.mk_ TObject.nx x.Heap.Objects (q))),D.sl true 5 (List.map (TBinding.e false) (mkL TBinding.mk_ TBinding.nx x.Scope.Vars (zaa TObject.nx x.Heap.Objects (q)))),D.sl true 4 (List.map (TFunction.e true) (mkL TFunction.mk_ TFunction.nx x.Scope.Functions (zaa TBinding.nx x.Scope.Vars (zaa TObject.nx x.Heap.Objects (q))))),D.sl true 2 (List.map (TRecordType.e true) (mkL TRecordType.mk_ TRecordType.nx x.Scope.Types (zaa TFunction.nx x.Scope.Functions (zaa TBinding.nx x.Scope.Vars (zaa TObject.nx x.Heap.Objects (q)))))),D.sl true 1 (List.map D.str (mkL (fun _ k=>mt k) (fun _ k=>k + 1) x.Console.Input (zaa TRecordType.nx x.Scope.Types (zaa TFunction.nx x.Scope.Functions (zaa TBinding.nx x.Scope.Vars (zaa TObject.nx x.Heap.Objects (q))))))),D.int .i64 x.Console.At,D.sl true 1 (List.map D.str (mkL (fun _ k=>mt k) (fun _ k=>k + 1) x.Console.Output (zaa (fun _ k=>k + 1) x.Console.Input (zaa TRecordType.nx x.Scope.Types (zaa TFunction.nx x.Scope.Functions (zaa TBinding.nx x.Scope.Vars (zaa TObject.nx x.Heap.Objects (q)))))))),D.sl true 4 (List.map (TFile.e true) (mkL TFile.mk_ TFile.nx x.Console.Files (zaa (fun _ k=>k + 1) x.Console.Output (zaa (fun _ k=>k + 1) x.Console.Input (zaa TRecordType.nx x.Scope.Types (zaa TFunction.nx x.Scope.Functions (zaa TBinding.nx x.Scope.Vars (zaa TObject.nx x.Heap.Objects (q))))))))),D.sl true 1 (List.map D.str (mkL (fun _ k=>mt k) (fun _ k=>k + 1) x.Console.Trace (zaa TFile.nx x.Console.Files (zaa (fun _ k=>k + 1) x.Console.Output (zaa (fun _ k=>k + 1) x.Console.Input (zaa TRecordType.nx x.Scope.Types (zaa TFunction.nx x.Scope.Functions (zaa TBinding.nx x.Scope.Vars (zaa TObject.nx x.Heap.Objects (q))))))))))]],sto):=by
 simp only [TMemory.n] at h
 have hfObjectsx_Heap:=zas TObject.nxm x.Heap.Objects (q)
 have hfVarsx_Scope:=zas TBinding.nxm x.Scope.Vars (zaa TObject.nx x.Heap.Objects (q))
 have hfFunctionsx_Scope:=zas TFunction.nxm x.Scope.Functions (zaa TBinding.nx x.Scope.Vars (zaa TObject.nx x.Heap.Objects (q)))
 have hfTypesx_Scope:=zas TRecordType.nxm x.Scope.Types (zaa TFunction.nx x.Scope.Functions (zaa TBinding.nx x.Scope.Vars (zaa TObject.nx x.Heap.Objects (q))))
 have hfInputx_Console:=zat x.Console.Input (zaa TRecordType.nx x.Scope.Types (zaa TFunction.nx x.Scope.Functions (zaa TBinding.nx x.Scope.Vars (zaa TObject.nx x.Heap.Objects (q)))))
 have hfOutputx_Console:=zat x.Console.Output (zaa (fun _ k=>k + 1) x.Console.Input (zaa TRecordType.nx x.Scope.Types (zaa TFunction.nx x.Scope.Functions (zaa TBinding.nx x.Scope.Vars (zaa TObject.nx x.Heap.Objects (q))))))
 have hfFilesx_Console:=zas TFile.nxm x.Console.Files (zaa (fun _ k=>k + 1) x.Console.Output (zaa (fun _ k=>k + 1) x.Console.Input (zaa TRecordType.nx x.Scope.Types (zaa TFunction.nx x.Scope.Functions (zaa TBinding.nx x.Scope.Vars (zaa TObject.nx x.Heap.Objects (q)))))))
 have hfTracex_Console:=zat x.Console.Trace (zaa TFile.nx x.Console.Files (zaa (fun _ k=>k + 1) x.Console.Output (zaa (fun _ k=>k + 1) x.Console.Input (zaa TRecordType.nx x.Scope.Types (zaa TFunction.nx x.Scope.Functions (zaa TBinding.nx x.Scope.Vars (zaa TObject.nx x.Heap.Objects (q))))))))
 have hmk:T.mrk 12=some [(0,(.many 2),37),(2,(.many 3),38),(5,(.many 5),39)]:=rfl
 rw [zgP T rfl hmk]
 simp (maxSteps:=9999999) (disch:=omega) only [vx,px,ty,↓reduceIte,seval,fx,zie,zeU,zcE,zgo,BK.width,List.replicate,zlM,zqi,znX]
end Go.Vx.WvZ

