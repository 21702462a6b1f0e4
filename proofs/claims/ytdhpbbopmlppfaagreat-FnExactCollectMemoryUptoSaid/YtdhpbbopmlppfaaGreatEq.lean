/-
  The laws' own functions: eq.
-/
import Derived.Test.YtdhpbbopmlppfaaGreatTypes
import Derived.Test.YtdhpbbopmlppfaaGreatCode
set_option linter.unusedVariables false
set_option linter.unusedSimpArgs false
namespace Go.Vx.CmZ
set_option linter.unusedVariables false
set_option linter.unusedSimpArgs false
set_option maxRecDepth 4000
set_option maxHeartbeats 4000000
theorem znr {R:Type} (e:En R) (sto:List (List D)) (k:List Fr):∀ (rest pre:List ByteArray) (i:Int),i=pre.length→pre.length + rest.length≤34359738368→lsum ByteArray.size rest≤34359738368 →
  go T e zoC (.lp zvG::.bl 0::.sq (.clr [4,5,6,7,8,9,10,11,12,13,14,15,16,17,18,19,20,21,22,23,24,25])::k) ⟨[.d (.sl false 1 (pre.map D.str++rest.map D.str)),.d (.sl false 1 (pre.map D.str++rest.map D.str)),Z,Z,Z,.d (.int .i64 i),Z,Z,Z,Z,Z,Z,Z,Z,Z,Z,Z,Z,Z,Z,Z,Z,Z,Z,Z,Z],sto⟩=bk T e k ⟨[.d (.sl false 1 (pre.map D.str++rest.map D.str)),.d (.sl false 1 (pre.map D.str++rest.map D.str)),Z,Z,Z,Z,Z,Z,Z,Z,Z,Z,Z,Z,Z,Z,Z,Z,Z,Z,Z,Z,Z,Z,Z,Z],sto⟩:=by
 intro rest
 induction rest with
 | nil =>
  intro pre i hi h1 h2
  have ht:i.toNat=pre.length:=by omega
  unfold zoC
  simp (maxSteps:=9999999) (disch:=omega) only [vx,px,ty,↓reduceIte,seval,fx,go_lpc]
 | cons x rest ih =>
  intro pre i hi h1 h2
  have ht:i.toNat=pre.length:=by omega
  rw [zaf] at h2
  rw [List.length_cons] at h1
  unfold zoC
  simp (maxSteps:=9999999) (disch:=omega) only [vx,px,ty,↓reduceIte,seval,fx,vxd,Nat.reduceBNe,go_lpc,ht,List.map_cons,ifT]
  have h:=ih (pre++[x]) (i + 1) (by simp;omega) (by simp;omega) (by omega)
  simp only [zas] at h
  exact h
theorem zgj (xs:List ByteArray) (sto:List (List D)) (h:xs.length≤34359738368) (h2:lsum ByteArray.size xs≤34359738368):zab T 63 [.sl false 1 (xs.map D.str),.sl false 1 (xs.map D.str)] sto=some (.bool true,[],sto):=by
 rw [zac T (g:=v63) rfl rfl rfl _ _ rfl]
 simp (maxSteps:=9999999) (disch:=omega) only [vx,px,ty,↓reduceIte,seval,fx,v63,zAS,go_lpc]
 have hl:=fun k=>znr (enF [.tmp 4] []) sto k xs [] 0 rfl (by simp;omega) h2
 simp only [List.map_nil,List.nil_append] at hl
 rw [hl]
 simp (maxSteps:=9999999) (disch:=omega) only [vx,px,ty,↓reduceIte,seval,fx]
theorem zjv (x:TValue) (sto:List (List D)) (h:TValue.n x≤34359738368):zab T 180 [D.agg [D.int .i64 x.Kind,D.int .i64 x.Num,D.str x.Text,D.int .i64 x.Ref],D.agg [D.int .i64 x.Kind,D.int .i64 x.Num,D.str x.Text,D.int .i64 x.Ref]] sto=some (.bool true,[],sto):=by
 simp only [TValue.n] at h
 rw [zac T (g:=v180) rfl rfl rfl _ _ rfl]
 simp (maxSteps:=9999999) (disch:=omega) only [vx,px,ty,↓reduceIte,seval,fx,v180,zxL]
theorem zpx {R:Type} (e:En R) (sto:List (List D)) (k:List Fr):∀ (rest pre:List TValue) (i:Int),i=pre.length→pre.length + rest.length≤34359738368→lsum TValue.n rest≤34359738368 →
  go T e zkW (.lp zsh::.bl 0::.sq (.clr [4,5,6,7,8,9,10,11,12,13,14,15,16,17,18,19,20,21,22,23,24,25,26])::k) ⟨[.d (.sl false 4 (pre.map (TValue.e false)++rest.map (TValue.e false))),.d (.sl false 4 (pre.map (TValue.e false)++rest.map (TValue.e false))),Z,Z,Z,.d (.int .i64 i),Z,Z,Z,Z,Z,Z,Z,Z,Z,Z,Z,Z,Z,Z,Z,Z,Z,Z,Z,Z,Z],sto⟩=bk T e k ⟨[.d (.sl false 4 (pre.map (TValue.e false)++rest.map (TValue.e false))),.d (.sl false 4 (pre.map (TValue.e false)++rest.map (TValue.e false))),Z,Z,Z,Z,Z,Z,Z,Z,Z,Z,Z,Z,Z,Z,Z,Z,Z,Z,Z,Z,Z,Z,Z,Z,Z],sto⟩:=by
 intro rest
 induction rest with
 | nil =>
  intro pre i hi h1 h2
  have ht:i.toNat=pre.length:=by omega
  unfold zkW
  simp (maxSteps:=9999999) (disch:=omega) only [vx,px,ty,↓reduceIte,seval,fx,go_lpc]
 | cons x rest ih =>
  intro pre i hi h1 h2
  have ht:i.toNat=pre.length:=by omega
  rw [zaf] at h2
  rw [List.length_cons] at h1
  unfold zkW
  simp (maxSteps:=9999999) (disch:=omega) only [vx,px,ty,↓reduceIte,seval,fx,vxd,Nat.reduceBNe,go_lpc,ht,List.map_cons,ifT,zjv]
  have h:=ih (pre++[x]) (i + 1) (by simp;omega) (by simp;omega) (by omega)
  simp only [zas] at h
  exact h
theorem zpy (xs:List TValue) (sto:List (List D)) (h:xs.length≤34359738368) (h2:lsum TValue.n xs≤34359738368):zab T 179 [.sl false 4 (xs.map (TValue.e false)),.sl false 4 (xs.map (TValue.e false))] sto=some (.bool true,[],sto):=by
 rw [zac T (g:=v179) rfl rfl rfl _ _ rfl]
 simp (maxSteps:=9999999) (disch:=omega) only [vx,px,ty,↓reduceIte,seval,fx,v179,zxK,go_lpc]
 have hl:=fun k=>zpx (enF [.tmp 4] []) sto k xs [] 0 rfl (by simp;omega) h2
 simp only [List.map_nil,List.nil_append] at hl
 rw [hl]
 simp (maxSteps:=9999999) (disch:=omega) only [vx,px,ty,↓reduceIte,seval,fx]
theorem zpz (x:TObject) (sto:List (List D)) (h:TObject.n x≤34359738368):zab T 132 [D.agg [D.int .i64 x.Id,D.int .i64 x.Kind,D.str x.Name,D.int .i64 x.Low,D.sl false 4 (List.map (TValue.e false) x.Keys),D.sl false 4 (List.map (TValue.e false) x.Vals),D.int .i64 x.Default.Kind,D.int .i64 x.Default.Num,D.str x.Default.Text,D.int .i64 x.Default.Ref],D.agg [D.int .i64 x.Id,D.int .i64 x.Kind,D.str x.Name,D.int .i64 x.Low,D.sl false 4 (List.map (TValue.e false) x.Keys),D.sl false 4 (List.map (TValue.e false) x.Vals),D.int .i64 x.Default.Kind,D.int .i64 x.Default.Num,D.str x.Default.Text,D.int .i64 x.Default.Ref]] sto=some (.bool true,[],sto):=by
 simp only [TObject.n] at h
 rw [zac T (g:=v132) rfl rfl rfl _ _ rfl]
 simp (maxSteps:=9999999) (disch:=omega) only [vx,px,ty,↓reduceIte,seval,fx,v132,zwU,zjv,zpy]
theorem zns {R:Type} (e:En R) (sto:List (List D)) (k:List Fr):∀ (rest pre:List TObject) (i:Int),i=pre.length→pre.length + rest.length≤34359738368→lsum TObject.n rest≤34359738368 →
  go T e zoy (.lp zvC::.bl 0::.sq (.clr [4,5,6,7,8,9,10,11,12,13,14,15,16,17,18,19,20,21,22,23,24,25,26])::k) ⟨[.d (.sl false 10 (pre.map (TObject.e false)++rest.map (TObject.e false))),.d (.sl false 10 (pre.map (TObject.e false)++rest.map (TObject.e false))),Z,Z,Z,.d (.int .i64 i),Z,Z,Z,Z,Z,Z,Z,Z,Z,Z,Z,Z,Z,Z,Z,Z,Z,Z,Z,Z,Z],sto⟩=bk T e k ⟨[.d (.sl false 10 (pre.map (TObject.e false)++rest.map (TObject.e false))),.d (.sl false 10 (pre.map (TObject.e false)++rest.map (TObject.e false))),Z,Z,Z,Z,Z,Z,Z,Z,Z,Z,Z,Z,Z,Z,Z,Z,Z,Z,Z,Z,Z,Z,Z,Z,Z],sto⟩:=by
 intro rest
 induction rest with
 | nil =>
  intro pre i hi h1 h2
  have ht:i.toNat=pre.length:=by omega
  unfold zoy
  simp (maxSteps:=9999999) (disch:=omega) only [vx,px,ty,↓reduceIte,seval,fx,go_lpc]
 | cons x rest ih =>
  intro pre i hi h1 h2
  have ht:i.toNat=pre.length:=by omega
  rw [zaf] at h2
  rw [List.length_cons] at h1
  unfold zoy
  simp (maxSteps:=9999999) (disch:=omega) only [vx,px,ty,↓reduceIte,seval,fx,vxd,Nat.reduceBNe,go_lpc,ht,List.map_cons,ifT,zpz]
  have h:=ih (pre++[x]) (i + 1) (by simp;omega) (by simp;omega) (by omega)
  simp only [zas] at h
  exact h
theorem znt (xs:List TObject) (sto:List (List D)) (h:xs.length≤34359738368) (h2:lsum TObject.n xs≤34359738368):zab T 59 [.sl false 10 (xs.map (TObject.e false)),.sl false 10 (xs.map (TObject.e false))] sto=some (.bool true,[],sto):=by
 rw [zac T (g:=v59) rfl rfl rfl _ _ rfl]
 simp (maxSteps:=9999999) (disch:=omega) only [vx,px,ty,↓reduceIte,seval,fx,v59,zAO,go_lpc]
 have hl:=fun k=>zns (enF [.tmp 4] []) sto k xs [] 0 rfl (by simp;omega) h2
 simp only [List.map_nil,List.nil_append] at hl
 rw [hl]
 simp (maxSteps:=9999999) (disch:=omega) only [vx,px,ty,↓reduceIte,seval,fx]
theorem ztT (x:THeap) (sto:List (List D)) (h:THeap.n x≤34359738368):zab T 21 [D.agg [D.int .i64 x.Next,D.sl false 10 (List.map (TObject.e false) x.Objects)],D.agg [D.int .i64 x.Next,D.sl false 10 (List.map (TObject.e false) x.Objects)]] sto=some (.bool true,[],sto):=by
 simp only [THeap.n] at h
 rw [zac T (g:=v21) rfl rfl rfl _ _ rfl]
 simp (maxSteps:=9999999) (disch:=omega) only [vx,px,ty,↓reduceIte,seval,fx,v21,zAf,znt]
theorem znu (x:TBinding) (sto:List (List D)) (h:TBinding.n x≤34359738368):zab T 133 [D.agg [D.str x.Name,D.int .i64 x.Value.Kind,D.int .i64 x.Value.Num,D.str x.Value.Text,D.int .i64 x.Value.Ref],D.agg [D.str x.Name,D.int .i64 x.Value.Kind,D.int .i64 x.Value.Num,D.str x.Value.Text,D.int .i64 x.Value.Ref]] sto=some (.bool true,[],sto):=by
 simp only [TBinding.n] at h
 rw [zac T (g:=v133) rfl rfl rfl _ _ rfl]
 simp (maxSteps:=9999999) (disch:=omega) only [vx,px,ty,↓reduceIte,seval,fx,v133,zwV,zjv]
theorem zmk {R:Type} (e:En R) (sto:List (List D)) (k:List Fr):∀ (rest pre:List TBinding) (i:Int),i=pre.length→pre.length + rest.length≤34359738368→lsum TBinding.n rest≤34359738368 →
  go T e zoz (.lp zvD::.bl 0::.sq (.clr [4,5,6,7,8,9,10,11,12,13,14,15,16,17,18,19,20,21,22,23,24,25,26])::k) ⟨[.d (.sl false 5 (pre.map (TBinding.e false)++rest.map (TBinding.e false))),.d (.sl false 5 (pre.map (TBinding.e false)++rest.map (TBinding.e false))),Z,Z,Z,.d (.int .i64 i),Z,Z,Z,Z,Z,Z,Z,Z,Z,Z,Z,Z,Z,Z,Z,Z,Z,Z,Z,Z,Z],sto⟩=bk T e k ⟨[.d (.sl false 5 (pre.map (TBinding.e false)++rest.map (TBinding.e false))),.d (.sl false 5 (pre.map (TBinding.e false)++rest.map (TBinding.e false))),Z,Z,Z,Z,Z,Z,Z,Z,Z,Z,Z,Z,Z,Z,Z,Z,Z,Z,Z,Z,Z,Z,Z,Z,Z],sto⟩:=by
 intro rest
 induction rest with
 | nil =>
  intro pre i hi h1 h2
  have ht:i.toNat=pre.length:=by omega
  unfold zoz
  simp (maxSteps:=9999999) (disch:=omega) only [vx,px,ty,↓reduceIte,seval,fx,go_lpc]
 | cons x rest ih =>
  intro pre i hi h1 h2
  have ht:i.toNat=pre.length:=by omega
  rw [zaf] at h2
  rw [List.length_cons] at h1
  unfold zoz
  simp (maxSteps:=9999999) (disch:=omega) only [vx,px,ty,↓reduceIte,seval,fx,vxd,Nat.reduceBNe,go_lpc,ht,List.map_cons,ifT,znu]
  have h:=ih (pre++[x]) (i + 1) (by simp;omega) (by simp;omega) (by omega)
  simp only [zas] at h
  exact h
theorem zml (xs:List TBinding) (sto:List (List D)) (h:xs.length≤34359738368) (h2:lsum TBinding.n xs≤34359738368):zab T 60 [.sl false 5 (xs.map (TBinding.e false)),.sl false 5 (xs.map (TBinding.e false))] sto=some (.bool true,[],sto):=by
 rw [zac T (g:=v60) rfl rfl rfl _ _ rfl]
 simp (maxSteps:=9999999) (disch:=omega) only [vx,px,ty,↓reduceIte,seval,fx,v60,zAP,go_lpc]
 have hl:=fun k=>zmk (enF [.tmp 4] []) sto k xs [] 0 rfl (by simp;omega) h2
 simp only [List.map_nil,List.nil_append] at hl
 rw [hl]
 simp (maxSteps:=9999999) (disch:=omega) only [vx,px,ty,↓reduceIte,seval,fx]
theorem zmm (x:TFunction) (sto:List (List D)) (h:TFunction.n x≤34359738368):zab T 134 [D.agg [D.str x.Name,D.sl false 1 (List.map D.str x.Params),D.sl false 1 (List.map D.str x.Locals),D.str x.Label],D.agg [D.str x.Name,D.sl false 1 (List.map D.str x.Params),D.sl false 1 (List.map D.str x.Locals),D.str x.Label]] sto=some (.bool true,[],sto):=by
 simp only [TFunction.n] at h
 rw [zac T (g:=v134) rfl rfl rfl _ _ rfl]
 simp (maxSteps:=9999999) (disch:=omega) only [vx,px,ty,↓reduceIte,seval,fx,v134,zwW,zgj]
theorem zlg {R:Type} (e:En R) (sto:List (List D)) (k:List Fr):∀ (rest pre:List TFunction) (i:Int),i=pre.length→pre.length + rest.length≤34359738368→lsum TFunction.n rest≤34359738368 →
  go T e zoA (.lp zvE::.bl 0::.sq (.clr [4,5,6,7,8,9,10,11,12,13,14,15,16,17,18,19,20,21,22,23,24,25,26])::k) ⟨[.d (.sl false 4 (pre.map (TFunction.e false)++rest.map (TFunction.e false))),.d (.sl false 4 (pre.map (TFunction.e false)++rest.map (TFunction.e false))),Z,Z,Z,.d (.int .i64 i),Z,Z,Z,Z,Z,Z,Z,Z,Z,Z,Z,Z,Z,Z,Z,Z,Z,Z,Z,Z,Z],sto⟩=bk T e k ⟨[.d (.sl false 4 (pre.map (TFunction.e false)++rest.map (TFunction.e false))),.d (.sl false 4 (pre.map (TFunction.e false)++rest.map (TFunction.e false))),Z,Z,Z,Z,Z,Z,Z,Z,Z,Z,Z,Z,Z,Z,Z,Z,Z,Z,Z,Z,Z,Z,Z,Z,Z],sto⟩:=by
 intro rest
 induction rest with
 | nil =>
  intro pre i hi h1 h2
  have ht:i.toNat=pre.length:=by omega
  unfold zoA
  simp (maxSteps:=9999999) (disch:=omega) only [vx,px,ty,↓reduceIte,seval,fx,go_lpc]
 | cons x rest ih =>
  intro pre i hi h1 h2
  have ht:i.toNat=pre.length:=by omega
  rw [zaf] at h2
  rw [List.length_cons] at h1
  unfold zoA
  simp (maxSteps:=9999999) (disch:=omega) only [vx,px,ty,↓reduceIte,seval,fx,vxd,Nat.reduceBNe,go_lpc,ht,List.map_cons,ifT,zmm]
  have h:=ih (pre++[x]) (i + 1) (by simp;omega) (by simp;omega) (by omega)
  simp only [zas] at h
  exact h
theorem zlh (xs:List TFunction) (sto:List (List D)) (h:xs.length≤34359738368) (h2:lsum TFunction.n xs≤34359738368):zab T 61 [.sl false 4 (xs.map (TFunction.e false)),.sl false 4 (xs.map (TFunction.e false))] sto=some (.bool true,[],sto):=by
 rw [zac T (g:=v61) rfl rfl rfl _ _ rfl]
 simp (maxSteps:=9999999) (disch:=omega) only [vx,px,ty,↓reduceIte,seval,fx,v61,zAQ,go_lpc]
 have hl:=fun k=>zlg (enF [.tmp 4] []) sto k xs [] 0 rfl (by simp;omega) h2
 simp only [List.map_nil,List.nil_append] at hl
 rw [hl]
 simp (maxSteps:=9999999) (disch:=omega) only [vx,px,ty,↓reduceIte,seval,fx]
theorem zjQ (x:TRecordType) (sto:List (List D)) (h:TRecordType.n x≤34359738368):zab T 135 [D.agg [D.str x.Name,D.sl false 1 (List.map D.str x.Fields)],D.agg [D.str x.Name,D.sl false 1 (List.map D.str x.Fields)]] sto=some (.bool true,[],sto):=by
 simp only [TRecordType.n] at h
 rw [zac T (g:=v135) rfl rfl rfl _ _ rfl]
 simp (maxSteps:=9999999) (disch:=omega) only [vx,px,ty,↓reduceIte,seval,fx,v135,zwX,zgj]
theorem zjw {R:Type} (e:En R) (sto:List (List D)) (k:List Fr):∀ (rest pre:List TRecordType) (i:Int),i=pre.length→pre.length + rest.length≤34359738368→lsum TRecordType.n rest≤34359738368 →
  go T e zoB (.lp zvF::.bl 0::.sq (.clr [4,5,6,7,8,9,10,11,12,13,14,15,16,17,18,19,20,21,22,23,24,25,26])::k) ⟨[.d (.sl false 2 (pre.map (TRecordType.e false)++rest.map (TRecordType.e false))),.d (.sl false 2 (pre.map (TRecordType.e false)++rest.map (TRecordType.e false))),Z,Z,Z,.d (.int .i64 i),Z,Z,Z,Z,Z,Z,Z,Z,Z,Z,Z,Z,Z,Z,Z,Z,Z,Z,Z,Z,Z],sto⟩=bk T e k ⟨[.d (.sl false 2 (pre.map (TRecordType.e false)++rest.map (TRecordType.e false))),.d (.sl false 2 (pre.map (TRecordType.e false)++rest.map (TRecordType.e false))),Z,Z,Z,Z,Z,Z,Z,Z,Z,Z,Z,Z,Z,Z,Z,Z,Z,Z,Z,Z,Z,Z,Z,Z,Z],sto⟩:=by
 intro rest
 induction rest with
 | nil =>
  intro pre i hi h1 h2
  have ht:i.toNat=pre.length:=by omega
  unfold zoB
  simp (maxSteps:=9999999) (disch:=omega) only [vx,px,ty,↓reduceIte,seval,fx,go_lpc]
 | cons x rest ih =>
  intro pre i hi h1 h2
  have ht:i.toNat=pre.length:=by omega
  rw [zaf] at h2
  rw [List.length_cons] at h1
  unfold zoB
  simp (maxSteps:=9999999) (disch:=omega) only [vx,px,ty,↓reduceIte,seval,fx,vxd,Nat.reduceBNe,go_lpc,ht,List.map_cons,ifT,zjQ]
  have h:=ih (pre++[x]) (i + 1) (by simp;omega) (by simp;omega) (by omega)
  simp only [zas] at h
  exact h
theorem zjx (xs:List TRecordType) (sto:List (List D)) (h:xs.length≤34359738368) (h2:lsum TRecordType.n xs≤34359738368):zab T 62 [.sl false 2 (xs.map (TRecordType.e false)),.sl false 2 (xs.map (TRecordType.e false))] sto=some (.bool true,[],sto):=by
 rw [zac T (g:=v62) rfl rfl rfl _ _ rfl]
 simp (maxSteps:=9999999) (disch:=omega) only [vx,px,ty,↓reduceIte,seval,fx,v62,zAR,go_lpc]
 have hl:=fun k=>zjw (enF [.tmp 4] []) sto k xs [] 0 rfl (by simp;omega) h2
 simp only [List.map_nil,List.nil_append] at hl
 rw [hl]
 simp (maxSteps:=9999999) (disch:=omega) only [vx,px,ty,↓reduceIte,seval,fx]
theorem zsN (x:TScope) (sto:List (List D)) (h:TScope.n x≤34359738368):zab T 22 [D.agg [D.sl false 5 (List.map (TBinding.e false) x.Vars),D.sl false 4 (List.map (TFunction.e false) x.Functions),D.sl false 2 (List.map (TRecordType.e false) x.Types)],D.agg [D.sl false 5 (List.map (TBinding.e false) x.Vars),D.sl false 4 (List.map (TFunction.e false) x.Functions),D.sl false 2 (List.map (TRecordType.e false) x.Types)]] sto=some (.bool true,[],sto):=by
 simp only [TScope.n] at h
 rw [zac T (g:=v22) rfl rfl rfl _ _ rfl]
 simp (maxSteps:=9999999) (disch:=omega) only [vx,px,ty,↓reduceIte,seval,fx,v22,zAg,zml,zlh,zjx]
theorem ztU (x:TFile) (sto:List (List D)) (h:TFile.n x≤34359738368):zab T 136 [D.agg [D.str x.Name,D.sl false 1 (List.map D.str x.Lines),D.int .i64 x.Mode,D.int .i64 x.At],D.agg [D.str x.Name,D.sl false 1 (List.map D.str x.Lines),D.int .i64 x.Mode,D.int .i64 x.At]] sto=some (.bool true,[],sto):=by
 simp only [TFile.n] at h
 rw [zac T (g:=v136) rfl rfl rfl _ _ rfl]
 simp (maxSteps:=9999999) (disch:=omega) only [vx,px,ty,↓reduceIte,seval,fx,v136,zwY,zgj]
theorem zsO {R:Type} (e:En R) (sto:List (List D)) (k:List Fr):∀ (rest pre:List TFile) (i:Int),i=pre.length→pre.length + rest.length≤34359738368→lsum TFile.n rest≤34359738368 →
  go T e zoD (.lp zvH::.bl 0::.sq (.clr [4,5,6,7,8,9,10,11,12,13,14,15,16,17,18,19,20,21,22,23,24,25,26])::k) ⟨[.d (.sl false 4 (pre.map (TFile.e false)++rest.map (TFile.e false))),.d (.sl false 4 (pre.map (TFile.e false)++rest.map (TFile.e false))),Z,Z,Z,.d (.int .i64 i),Z,Z,Z,Z,Z,Z,Z,Z,Z,Z,Z,Z,Z,Z,Z,Z,Z,Z,Z,Z,Z],sto⟩=bk T e k ⟨[.d (.sl false 4 (pre.map (TFile.e false)++rest.map (TFile.e false))),.d (.sl false 4 (pre.map (TFile.e false)++rest.map (TFile.e false))),Z,Z,Z,Z,Z,Z,Z,Z,Z,Z,Z,Z,Z,Z,Z,Z,Z,Z,Z,Z,Z,Z,Z,Z,Z],sto⟩:=by
 intro rest
 induction rest with
 | nil =>
  intro pre i hi h1 h2
  have ht:i.toNat=pre.length:=by omega
  unfold zoD
  simp (maxSteps:=9999999) (disch:=omega) only [vx,px,ty,↓reduceIte,seval,fx,go_lpc]
 | cons x rest ih =>
  intro pre i hi h1 h2
  have ht:i.toNat=pre.length:=by omega
  rw [zaf] at h2
  rw [List.length_cons] at h1
  unfold zoD
  simp (maxSteps:=9999999) (disch:=omega) only [vx,px,ty,↓reduceIte,seval,fx,vxd,Nat.reduceBNe,go_lpc,ht,List.map_cons,ifT,ztU]
  have h:=ih (pre++[x]) (i + 1) (by simp;omega) (by simp;omega) (by omega)
  simp only [zas] at h
  exact h
theorem zsP (xs:List TFile) (sto:List (List D)) (h:xs.length≤34359738368) (h2:lsum TFile.n xs≤34359738368):zab T 64 [.sl false 4 (xs.map (TFile.e false)),.sl false 4 (xs.map (TFile.e false))] sto=some (.bool true,[],sto):=by
 rw [zac T (g:=v64) rfl rfl rfl _ _ rfl]
 simp (maxSteps:=9999999) (disch:=omega) only [vx,px,ty,↓reduceIte,seval,fx,v64,zAT,go_lpc]
 have hl:=fun k=>zsO (enF [.tmp 4] []) sto k xs [] 0 rfl (by simp;omega) h2
 simp only [List.map_nil,List.nil_append] at hl
 rw [hl]
 simp (maxSteps:=9999999) (disch:=omega) only [vx,px,ty,↓reduceIte,seval,fx]
theorem znv (x:TConsole) (sto:List (List D)) (h:TConsole.n x≤34359738368):zab T 23 [D.agg [D.sl false 1 (List.map D.str x.Input),D.int .i64 x.At,D.sl false 1 (List.map D.str x.Output),D.sl false 4 (List.map (TFile.e false) x.Files),D.sl false 1 (List.map D.str x.Trace)],D.agg [D.sl false 1 (List.map D.str x.Input),D.int .i64 x.At,D.sl false 1 (List.map D.str x.Output),D.sl false 4 (List.map (TFile.e false) x.Files),D.sl false 1 (List.map D.str x.Trace)]] sto=some (.bool true,[],sto):=by
 simp only [TConsole.n] at h
 rw [zac T (g:=v23) rfl rfl rfl _ _ rfl]
 simp (maxSteps:=9999999) (disch:=omega) only [vx,px,ty,↓reduceIte,seval,fx,v23,zAh,zsP,zgj]
theorem zkr (x:TMemory) (sto:List (List D)) (h:TMemory.n x≤34359738368):zab T 8 [D.agg [D.int .i64 x.Heap.Next,D.sl false 10 (List.map (TObject.e false) x.Heap.Objects),D.sl false 5 (List.map (TBinding.e false) x.Scope.Vars),D.sl false 4 (List.map (TFunction.e false) x.Scope.Functions),D.sl false 2 (List.map (TRecordType.e false) x.Scope.Types),D.sl false 1 (List.map D.str x.Console.Input),D.int .i64 x.Console.At,D.sl false 1 (List.map D.str x.Console.Output),D.sl false 4 (List.map (TFile.e false) x.Console.Files),D.sl false 1 (List.map D.str x.Console.Trace)],D.agg [D.int .i64 x.Heap.Next,D.sl false 10 (List.map (TObject.e false) x.Heap.Objects),D.sl false 5 (List.map (TBinding.e false) x.Scope.Vars),D.sl false 4 (List.map (TFunction.e false) x.Scope.Functions),D.sl false 2 (List.map (TRecordType.e false) x.Scope.Types),D.sl false 1 (List.map D.str x.Console.Input),D.int .i64 x.Console.At,D.sl false 1 (List.map D.str x.Console.Output),D.sl false 4 (List.map (TFile.e false) x.Console.Files),D.sl false 1 (List.map D.str x.Console.Trace)]] sto=some (.bool true,[],sto):=by
 simp only [TMemory.n] at h
 rw [zac T (g:=v8) rfl rfl rfl _ _ rfl]
 simp (maxSteps:=9999999) (disch:=omega) only [vx,px,ty,↓reduceIte,seval,fx,v8,v8_b,znv,ztT,zsN]
end Go.Vx.CmZ
